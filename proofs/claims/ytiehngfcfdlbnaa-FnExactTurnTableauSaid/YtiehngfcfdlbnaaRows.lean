/-
  No cell of these rows narrows 'for every input' (looked for: loops, veiled, ifaces, maps, wideKeys, modest, calm, conditions, laid).
  DERIVED. THE GIVEN ROWS OF THIS SEAT. 8 by the template 'for every input the law returns true; each argument reads behind the call as it read before'; 0 by the template 'total and deterministic' (their statements: YtiehngfcfdlbnaaTotals.lean).
  GIVEN WITH THE SEED: the statements are not yours to turn. If you find one false, say at which input.
  Laid BY PROGRAM, IN A SANDBOX (cutbox-rows.mjs): the forced cells as the released guide's own fill.sh prints them over the translation c4994ee5ae319967… (all of the seat's roots in one cut). By AI agents, Wed Nov 11 2026. No macro, syntax, notation, axiom, sorry.
-/
import Derived.Test.YtiehngfcfdlbnaaChecked
import GoSem.Claim
import GoSem.ClaimJoined
import GoSem.ClaimMapViews
import Derived.JoinedTies
import Derived.KernelRfl
namespace Go.Proofs.Ytiehngfcfdlbnaa
/- THE CELL 'sum', in the pinned program and in every row, IS THE sha256 OF THE DUMP (.gsa) THAT YtiehngfcfdlbnaaProg.lean LOADS. Nothing in Lean hashes anything: it is a label: what it is worth is what the hold of that sum in a sandbox is worth. -/
noncomputable def Try.pinned : Pinned := { name := "ytiehngfcfdlbnaa", sum := "c4994ee5ae31996772fcffc41294a24a1ce8e331fabe33c5bb5adf2634d92b53", checked := Try.checked }
namespace Rows
def none {H : Type} : Left H := { results := [], args := [] }

/-- 'laws.FnExactEqualTableau': WHATEVER THE INPUT: true; the input reads as it did. -/
def fnExactEqualTableauSpec : ChangeSpec := { name := "fnExactEqualTableau", fn := fun _ => fun
  | [d1, d2] => { results := [.lit (.bool true)], args := [d1, d2] }
  | _ => none }
def fnExactEqualTableauRow : OpenClaim := { program := "ytiehngfcfdlbnaa", sum := "c4994ee5ae31996772fcffc41294a24a1ce8e331fabe33c5bb5adf2634d92b53", func := "loop.example/g00598/laws.FnExactEqualTableau", spec := "fnExactEqualTableau", unfollowed := true, recurses := true, apart := false }
def FnExactEqualTableauSaid : Prop := fnExactEqualTableauRow.holds Try.pinned (OpenSpec.ofChange fnExactEqualTableauSpec)

/-- ITS FALSE NEIGHBOUR: 'it returns false'. Refute it at one input. -/
def fnExactEqualTableauWrong : ChangeSpec := { name := "fnExactEqualTableau", fn := fun _ => fun
  | [d1, d2] => { results := [.lit (.bool false)], args := [d1, d2] }
  | _ => none }
def FnExactEqualTableauWrongFalsely : Prop := fnExactEqualTableauRow.holds Try.pinned (OpenSpec.ofChange fnExactEqualTableauWrong)

/-- 'laws.FnExactIsTableau': WHATEVER THE INPUT: true; the input reads as it did. -/
def fnExactIsTableauSpec : ChangeSpec := { name := "fnExactIsTableau", fn := fun _ => fun
  | [d] => { results := [.lit (.bool true)], args := [d] }
  | _ => none }
def fnExactIsTableauRow : OpenClaim := { program := "ytiehngfcfdlbnaa", sum := "c4994ee5ae31996772fcffc41294a24a1ce8e331fabe33c5bb5adf2634d92b53", func := "loop.example/g00598/laws.FnExactIsTableau", spec := "fnExactIsTableau", apart := false }
def FnExactIsTableauSaid : Prop := fnExactIsTableauRow.holds Try.pinned (OpenSpec.ofChange fnExactIsTableauSpec)

/-- ITS FALSE NEIGHBOUR: 'it returns false'. Refute it at one input. -/
def fnExactIsTableauWrong : ChangeSpec := { name := "fnExactIsTableau", fn := fun _ => fun
  | [d] => { results := [.lit (.bool false)], args := [d] }
  | _ => none }
def FnExactIsTableauWrongFalsely : Prop := fnExactIsTableauRow.holds Try.pinned (OpenSpec.ofChange fnExactIsTableauWrong)

/-- 'laws.FnExactShapeOf': WHATEVER THE INPUT: true; the input reads as it did. -/
def fnExactShapeOfSpec : ChangeSpec := { name := "fnExactShapeOf", fn := fun _ => fun
  | [d] => { results := [.lit (.bool true)], args := [d] }
  | _ => none }
def fnExactShapeOfRow : OpenClaim := { program := "ytiehngfcfdlbnaa", sum := "c4994ee5ae31996772fcffc41294a24a1ce8e331fabe33c5bb5adf2634d92b53", func := "loop.example/g00598/laws.FnExactShapeOf", spec := "fnExactShapeOf", apart := false }
def FnExactShapeOfSaid : Prop := fnExactShapeOfRow.holds Try.pinned (OpenSpec.ofChange fnExactShapeOfSpec)

/-- ITS FALSE NEIGHBOUR: 'it returns false'. Refute it at one input. -/
def fnExactShapeOfWrong : ChangeSpec := { name := "fnExactShapeOf", fn := fun _ => fun
  | [d] => { results := [.lit (.bool false)], args := [d] }
  | _ => none }
def FnExactShapeOfWrongFalsely : Prop := fnExactShapeOfRow.holds Try.pinned (OpenSpec.ofChange fnExactShapeOfWrong)

/-- 'laws.FnExactEntryAt': WHATEVER THE INPUT: true; the input reads as it did. -/
def fnExactEntryAtSpec : ChangeSpec := { name := "fnExactEntryAt", fn := fun _ => fun
  | [d1, d2, d3] => { results := [.lit (.bool true)], args := [d1, d2, d3] }
  | _ => none }
def fnExactEntryAtRow : OpenClaim := { program := "ytiehngfcfdlbnaa", sum := "c4994ee5ae31996772fcffc41294a24a1ce8e331fabe33c5bb5adf2634d92b53", func := "loop.example/g00598/laws.FnExactEntryAt", spec := "fnExactEntryAt", apart := false }
def FnExactEntryAtSaid : Prop := fnExactEntryAtRow.holds Try.pinned (OpenSpec.ofChange fnExactEntryAtSpec)

/-- ITS FALSE NEIGHBOUR: 'it returns false'. Refute it at one input. -/
def fnExactEntryAtWrong : ChangeSpec := { name := "fnExactEntryAt", fn := fun _ => fun
  | [d1, d2, d3] => { results := [.lit (.bool false)], args := [d1, d2, d3] }
  | _ => none }
def FnExactEntryAtWrongFalsely : Prop := fnExactEntryAtRow.holds Try.pinned (OpenSpec.ofChange fnExactEntryAtWrong)

/-- 'laws.FnExactIsStandard': WHATEVER THE INPUT: true; the input reads as it did. -/
def fnExactIsStandardSpec : ChangeSpec := { name := "fnExactIsStandard", fn := fun _ => fun
  | [d] => { results := [.lit (.bool true)], args := [d] }
  | _ => none }
def fnExactIsStandardRow : OpenClaim := { program := "ytiehngfcfdlbnaa", sum := "c4994ee5ae31996772fcffc41294a24a1ce8e331fabe33c5bb5adf2634d92b53", func := "loop.example/g00598/laws.FnExactIsStandard", spec := "fnExactIsStandard", apart := false }
def FnExactIsStandardSaid : Prop := fnExactIsStandardRow.holds Try.pinned (OpenSpec.ofChange fnExactIsStandardSpec)

/-- ITS FALSE NEIGHBOUR: 'it returns false'. Refute it at one input. -/
def fnExactIsStandardWrong : ChangeSpec := { name := "fnExactIsStandard", fn := fun _ => fun
  | [d] => { results := [.lit (.bool false)], args := [d] }
  | _ => none }
def FnExactIsStandardWrongFalsely : Prop := fnExactIsStandardRow.holds Try.pinned (OpenSpec.ofChange fnExactIsStandardWrong)

/-- 'laws.FnExactWeightOf': WHATEVER THE INPUT: true; the input reads as it did. -/
def fnExactWeightOfSpec : ChangeSpec := { name := "fnExactWeightOf", fn := fun _ => fun
  | [d] => { results := [.lit (.bool true)], args := [d] }
  | _ => none }
def fnExactWeightOfRow : OpenClaim := { program := "ytiehngfcfdlbnaa", sum := "c4994ee5ae31996772fcffc41294a24a1ce8e331fabe33c5bb5adf2634d92b53", func := "loop.example/g00598/laws.FnExactWeightOf", spec := "fnExactWeightOf", apart := false }
def FnExactWeightOfSaid : Prop := fnExactWeightOfRow.holds Try.pinned (OpenSpec.ofChange fnExactWeightOfSpec)

/-- ITS FALSE NEIGHBOUR: 'it returns false'. Refute it at one input. -/
def fnExactWeightOfWrong : ChangeSpec := { name := "fnExactWeightOf", fn := fun _ => fun
  | [d] => { results := [.lit (.bool false)], args := [d] }
  | _ => none }
def FnExactWeightOfWrongFalsely : Prop := fnExactWeightOfRow.holds Try.pinned (OpenSpec.ofChange fnExactWeightOfWrong)

/-- 'laws.FnExactRowOfEntry': WHATEVER THE INPUT: true; the input reads as it did. -/
def fnExactRowOfEntrySpec : ChangeSpec := { name := "fnExactRowOfEntry", fn := fun _ => fun
  | [d1, d2] => { results := [.lit (.bool true)], args := [d1, d2] }
  | _ => none }
def fnExactRowOfEntryRow : OpenClaim := { program := "ytiehngfcfdlbnaa", sum := "c4994ee5ae31996772fcffc41294a24a1ce8e331fabe33c5bb5adf2634d92b53", func := "loop.example/g00598/laws.FnExactRowOfEntry", spec := "fnExactRowOfEntry", unfollowed := true, recurses := true, apart := false }
def FnExactRowOfEntrySaid : Prop := fnExactRowOfEntryRow.holds Try.pinned (OpenSpec.ofChange fnExactRowOfEntrySpec)

/-- ITS FALSE NEIGHBOUR: 'it returns false'. Refute it at one input. -/
def fnExactRowOfEntryWrong : ChangeSpec := { name := "fnExactRowOfEntry", fn := fun _ => fun
  | [d1, d2] => { results := [.lit (.bool false)], args := [d1, d2] }
  | _ => none }
def FnExactRowOfEntryWrongFalsely : Prop := fnExactRowOfEntryRow.holds Try.pinned (OpenSpec.ofChange fnExactRowOfEntryWrong)

/-- 'laws.FnExactTurnTableau': WHATEVER THE INPUT: true; the input reads as it did. -/
def fnExactTurnTableauSpec : ChangeSpec := { name := "fnExactTurnTableau", fn := fun _ => fun
  | [d] => { results := [.lit (.bool true)], args := [d] }
  | _ => none }
def fnExactTurnTableauRow : OpenClaim := { program := "ytiehngfcfdlbnaa", sum := "c4994ee5ae31996772fcffc41294a24a1ce8e331fabe33c5bb5adf2634d92b53", func := "loop.example/g00598/laws.FnExactTurnTableau", spec := "fnExactTurnTableau", apart := false }
def FnExactTurnTableauSaid : Prop := fnExactTurnTableauRow.holds Try.pinned (OpenSpec.ofChange fnExactTurnTableauSpec)

/-- ITS FALSE NEIGHBOUR: 'it returns false'. Refute it at one input. -/
def fnExactTurnTableauWrong : ChangeSpec := { name := "fnExactTurnTableau", fn := fun _ => fun
  | [d] => { results := [.lit (.bool false)], args := [d] }
  | _ => none }
def FnExactTurnTableauWrongFalsely : Prop := fnExactTurnTableauRow.holds Try.pinned (OpenSpec.ofChange fnExactTurnTableauWrong)

/- THE SECOND FORM. 'bulk': how many values and letters a reading holds, each counted each time it is reached (what is shared counts as often as it is met; a slice's spare places count too). A statement '..UptoSaid' is the law's where the arguments, and the package variables that the reading takes, are together of bulk at most 1048576: NARROWER than '..Said'. Prove '..Said' where nothing that the law and all that it calls make is longer than what came in: it says more and counts as full. Else prove '..UptoSaid'. A law counts once. -/
mutual
def uptoBulk {H : Type} : DataW H → Nat
  | .lit (.string bytes) => bytes.length + 1
  | .lit _ => 1
  | .nil => 1
  | .ptr d => uptoBulk d + 1
  | .slice elems spare => uptoBulkAll elems + uptoBulkAll spare + 1
  | .agg parts => uptoBulkAll parts + 1
  | .iface _ d => uptoBulk d + 1
  | .map entries => uptoBulkEntries entries + 1
  | .held _ => 1
def uptoBulkAll {H : Type} : List (DataW H) → Nat
  | [] => 0
  | d :: r => uptoBulk d + uptoBulkAll r
def uptoBulkEntries {H : Type} : List (Lit × DataW H) → Nat
  | [] => 0
  | x :: r => uptoBulkEntry x + uptoBulkEntries r
def uptoBulkEntry {H : Type} : Lit × DataW H → Nat
  | (.string bytes, d) => bytes.length + uptoBulk d + 1
  | (_, d) => uptoBulk d + 1
 end
def uptoSmall : (H : Type) → List (DataW H) → Bool := fun _ ds => decide (uptoBulkAll ds ≤ 1048576)
def OpenSpec.upto (s : _root_.Go.ChangeSpec) : _root_.Go.OpenSpec := { _root_.Go.OpenSpec.ofChange s with cond := some uptoSmall }

/-- 'laws.FnExactEqualTableau', WHERE WHAT IT READS IS OF BULK AT MOST 1048576: true; the input reads as it did. -/
def fnExactEqualTableauUptoRow : OpenClaim := { program := "ytiehngfcfdlbnaa", sum := "c4994ee5ae31996772fcffc41294a24a1ce8e331fabe33c5bb5adf2634d92b53", func := "loop.example/g00598/laws.FnExactEqualTableau", spec := "fnExactEqualTableau", unfollowed := true, recurses := true, apart := false, narrowed := true }
def FnExactEqualTableauUptoSaid : Prop := fnExactEqualTableauUptoRow.holds Try.pinned (OpenSpec.upto fnExactEqualTableauSpec)

/-- 'laws.FnExactIsTableau', WHERE WHAT IT READS IS OF BULK AT MOST 1048576: true; the input reads as it did. -/
def fnExactIsTableauUptoRow : OpenClaim := { program := "ytiehngfcfdlbnaa", sum := "c4994ee5ae31996772fcffc41294a24a1ce8e331fabe33c5bb5adf2634d92b53", func := "loop.example/g00598/laws.FnExactIsTableau", spec := "fnExactIsTableau", apart := false, narrowed := true }
def FnExactIsTableauUptoSaid : Prop := fnExactIsTableauUptoRow.holds Try.pinned (OpenSpec.upto fnExactIsTableauSpec)

/-- 'laws.FnExactShapeOf', WHERE WHAT IT READS IS OF BULK AT MOST 1048576: true; the input reads as it did. -/
def fnExactShapeOfUptoRow : OpenClaim := { program := "ytiehngfcfdlbnaa", sum := "c4994ee5ae31996772fcffc41294a24a1ce8e331fabe33c5bb5adf2634d92b53", func := "loop.example/g00598/laws.FnExactShapeOf", spec := "fnExactShapeOf", apart := false, narrowed := true }
def FnExactShapeOfUptoSaid : Prop := fnExactShapeOfUptoRow.holds Try.pinned (OpenSpec.upto fnExactShapeOfSpec)

/-- 'laws.FnExactEntryAt', WHERE WHAT IT READS IS OF BULK AT MOST 1048576: true; the input reads as it did. -/
def fnExactEntryAtUptoRow : OpenClaim := { program := "ytiehngfcfdlbnaa", sum := "c4994ee5ae31996772fcffc41294a24a1ce8e331fabe33c5bb5adf2634d92b53", func := "loop.example/g00598/laws.FnExactEntryAt", spec := "fnExactEntryAt", apart := false, narrowed := true }
def FnExactEntryAtUptoSaid : Prop := fnExactEntryAtUptoRow.holds Try.pinned (OpenSpec.upto fnExactEntryAtSpec)

/-- 'laws.FnExactIsStandard', WHERE WHAT IT READS IS OF BULK AT MOST 1048576: true; the input reads as it did. -/
def fnExactIsStandardUptoRow : OpenClaim := { program := "ytiehngfcfdlbnaa", sum := "c4994ee5ae31996772fcffc41294a24a1ce8e331fabe33c5bb5adf2634d92b53", func := "loop.example/g00598/laws.FnExactIsStandard", spec := "fnExactIsStandard", apart := false, narrowed := true }
def FnExactIsStandardUptoSaid : Prop := fnExactIsStandardUptoRow.holds Try.pinned (OpenSpec.upto fnExactIsStandardSpec)

/-- 'laws.FnExactWeightOf', WHERE WHAT IT READS IS OF BULK AT MOST 1048576: true; the input reads as it did. -/
def fnExactWeightOfUptoRow : OpenClaim := { program := "ytiehngfcfdlbnaa", sum := "c4994ee5ae31996772fcffc41294a24a1ce8e331fabe33c5bb5adf2634d92b53", func := "loop.example/g00598/laws.FnExactWeightOf", spec := "fnExactWeightOf", apart := false, narrowed := true }
def FnExactWeightOfUptoSaid : Prop := fnExactWeightOfUptoRow.holds Try.pinned (OpenSpec.upto fnExactWeightOfSpec)

/-- 'laws.FnExactRowOfEntry', WHERE WHAT IT READS IS OF BULK AT MOST 1048576: true; the input reads as it did. -/
def fnExactRowOfEntryUptoRow : OpenClaim := { program := "ytiehngfcfdlbnaa", sum := "c4994ee5ae31996772fcffc41294a24a1ce8e331fabe33c5bb5adf2634d92b53", func := "loop.example/g00598/laws.FnExactRowOfEntry", spec := "fnExactRowOfEntry", unfollowed := true, recurses := true, apart := false, narrowed := true }
def FnExactRowOfEntryUptoSaid : Prop := fnExactRowOfEntryUptoRow.holds Try.pinned (OpenSpec.upto fnExactRowOfEntrySpec)

/-- 'laws.FnExactTurnTableau', WHERE WHAT IT READS IS OF BULK AT MOST 1048576: true; the input reads as it did. -/
def fnExactTurnTableauUptoRow : OpenClaim := { program := "ytiehngfcfdlbnaa", sum := "c4994ee5ae31996772fcffc41294a24a1ce8e331fabe33c5bb5adf2634d92b53", func := "loop.example/g00598/laws.FnExactTurnTableau", spec := "fnExactTurnTableau", apart := false, narrowed := true }
def FnExactTurnTableauUptoSaid : Prop := fnExactTurnTableauUptoRow.holds Try.pinned (OpenSpec.upto fnExactTurnTableauSpec)

end Rows
end Go.Proofs.Ytiehngfcfdlbnaa
