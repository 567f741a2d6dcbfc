/-
  No cell of these rows narrows 'for every input' (looked for: loops, veiled, ifaces, maps, wideKeys, modest, calm, conditions, laid).
  DERIVED. THE GIVEN ROWS OF THIS SEAT. 15 by the template 'for every input the law returns true; each argument reads behind the call as it read before'; 0 by the template 'total and deterministic' (their statements: YthjbkkjiggdcpaaTotals.lean).
  GIVEN WITH THE SEED: the statements are not yours to turn. If you find one false, say at which input.
  Laid BY PROGRAM, IN A SANDBOX (cutbox-rows.mjs): the forced cells as the released guide's own fill.sh prints them over the translation 0616c6c9402cfc54… (all of the seat's roots in one cut). By AI agents, Wed Nov 11 2026. No macro, syntax, notation, axiom, sorry.
-/
import Derived.Test.YthjbkkjiggdcpaaChecked
import GoSem.Claim
import GoSem.ClaimJoined
import GoSem.ClaimMapViews
import Derived.JoinedTies
import Derived.KernelRfl
namespace Go.Proofs.Ythjbkkjiggdcpaa
/- THE CELL 'sum', in the pinned program and in every row, IS THE sha256 OF THE DUMP (.gsa) THAT YthjbkkjiggdcpaaProg.lean LOADS. Nothing in Lean hashes anything: it is a label: what it is worth is what the hold of that sum in a sandbox is worth. -/
noncomputable def Try.pinned : Pinned := { name := "ythjbkkjiggdcpaa", sum := "0616c6c9402cfc5472a5e122dd0359affb5039698e260ccc765cd0792c7a50ec", checked := Try.checked }
namespace Rows
def none {H : Type} : Left H := { results := [], args := [] }

/-- 'laws.FnExactHookOf': WHATEVER THE INPUT: true; the input reads as it did. -/
def fnExactHookOfSpec : ChangeSpec := { name := "fnExactHookOf", fn := fun _ => fun
  | [d1, d2, d3] => { results := [.lit (.bool true)], args := [d1, d2, d3] }
  | _ => none }
def fnExactHookOfRow : OpenClaim := { program := "ythjbkkjiggdcpaa", sum := "0616c6c9402cfc5472a5e122dd0359affb5039698e260ccc765cd0792c7a50ec", func := "loop.example/g00598/laws.FnExactHookOf", spec := "fnExactHookOf", apart := false }
def FnExactHookOfSaid : Prop := fnExactHookOfRow.holds Try.pinned (OpenSpec.ofChange fnExactHookOfSpec)

/-- ITS FALSE NEIGHBOUR: 'it returns false'. Refute it at one input. -/
def fnExactHookOfWrong : ChangeSpec := { name := "fnExactHookOf", fn := fun _ => fun
  | [d1, d2, d3] => { results := [.lit (.bool false)], args := [d1, d2, d3] }
  | _ => none }
def FnExactHookOfWrongFalsely : Prop := fnExactHookOfRow.holds Try.pinned (OpenSpec.ofChange fnExactHookOfWrong)

/-- 'laws.FnExactConjugate': WHATEVER THE INPUT: true; the input reads as it did. -/
def fnExactConjugateSpec : ChangeSpec := { name := "fnExactConjugate", fn := fun _ => fun
  | [d] => { results := [.lit (.bool true)], args := [d] }
  | _ => none }
def fnExactConjugateRow : OpenClaim := { program := "ythjbkkjiggdcpaa", sum := "0616c6c9402cfc5472a5e122dd0359affb5039698e260ccc765cd0792c7a50ec", func := "loop.example/g00598/laws.FnExactConjugate", spec := "fnExactConjugate", apart := false }
def FnExactConjugateSaid : Prop := fnExactConjugateRow.holds Try.pinned (OpenSpec.ofChange fnExactConjugateSpec)

/-- ITS FALSE NEIGHBOUR: 'it returns false'. Refute it at one input. -/
def fnExactConjugateWrong : ChangeSpec := { name := "fnExactConjugate", fn := fun _ => fun
  | [d] => { results := [.lit (.bool false)], args := [d] }
  | _ => none }
def FnExactConjugateWrongFalsely : Prop := fnExactConjugateRow.holds Try.pinned (OpenSpec.ofChange fnExactConjugateWrong)

/-- 'laws.FnExactIsShape': WHATEVER THE INPUT: true; the input reads as it did. -/
def fnExactIsShapeSpec : ChangeSpec := { name := "fnExactIsShape", fn := fun _ => fun
  | [d] => { results := [.lit (.bool true)], args := [d] }
  | _ => none }
def fnExactIsShapeRow : OpenClaim := { program := "ythjbkkjiggdcpaa", sum := "0616c6c9402cfc5472a5e122dd0359affb5039698e260ccc765cd0792c7a50ec", func := "loop.example/g00598/laws.FnExactIsShape", spec := "fnExactIsShape", apart := false }
def FnExactIsShapeSaid : Prop := fnExactIsShapeRow.holds Try.pinned (OpenSpec.ofChange fnExactIsShapeSpec)

/-- ITS FALSE NEIGHBOUR: 'it returns false'. Refute it at one input. -/
def fnExactIsShapeWrong : ChangeSpec := { name := "fnExactIsShape", fn := fun _ => fun
  | [d] => { results := [.lit (.bool false)], args := [d] }
  | _ => none }
def FnExactIsShapeWrongFalsely : Prop := fnExactIsShapeRow.holds Try.pinned (OpenSpec.ofChange fnExactIsShapeWrong)

/-- 'laws.FnExactDominates': WHATEVER THE INPUT: true; the input reads as it did. -/
def fnExactDominatesSpec : ChangeSpec := { name := "fnExactDominates", fn := fun _ => fun
  | [d1, d2] => { results := [.lit (.bool true)], args := [d1, d2] }
  | _ => none }
def fnExactDominatesRow : OpenClaim := { program := "ythjbkkjiggdcpaa", sum := "0616c6c9402cfc5472a5e122dd0359affb5039698e260ccc765cd0792c7a50ec", func := "loop.example/g00598/laws.FnExactDominates", spec := "fnExactDominates", apart := false }
def FnExactDominatesSaid : Prop := fnExactDominatesRow.holds Try.pinned (OpenSpec.ofChange fnExactDominatesSpec)

/-- ITS FALSE NEIGHBOUR: 'it returns false'. Refute it at one input. -/
def fnExactDominatesWrong : ChangeSpec := { name := "fnExactDominates", fn := fun _ => fun
  | [d1, d2] => { results := [.lit (.bool false)], args := [d1, d2] }
  | _ => none }
def FnExactDominatesWrongFalsely : Prop := fnExactDominatesRow.holds Try.pinned (OpenSpec.ofChange fnExactDominatesWrong)

/-- 'laws.FnExactIsHorizontalStrip': WHATEVER THE INPUT: true; the input reads as it did. -/
def fnExactIsHorizontalStripSpec : ChangeSpec := { name := "fnExactIsHorizontalStrip", fn := fun _ => fun
  | [d] => { results := [.lit (.bool true)], args := [d] }
  | _ => none }
def fnExactIsHorizontalStripRow : OpenClaim := { program := "ythjbkkjiggdcpaa", sum := "0616c6c9402cfc5472a5e122dd0359affb5039698e260ccc765cd0792c7a50ec", func := "loop.example/g00598/laws.FnExactIsHorizontalStrip", spec := "fnExactIsHorizontalStrip", apart := false }
def FnExactIsHorizontalStripSaid : Prop := fnExactIsHorizontalStripRow.holds Try.pinned (OpenSpec.ofChange fnExactIsHorizontalStripSpec)

/-- ITS FALSE NEIGHBOUR: 'it returns false'. Refute it at one input. -/
def fnExactIsHorizontalStripWrong : ChangeSpec := { name := "fnExactIsHorizontalStrip", fn := fun _ => fun
  | [d] => { results := [.lit (.bool false)], args := [d] }
  | _ => none }
def FnExactIsHorizontalStripWrongFalsely : Prop := fnExactIsHorizontalStripRow.holds Try.pinned (OpenSpec.ofChange fnExactIsHorizontalStripWrong)

/-- 'laws.FnExactIsVerticalStrip': WHATEVER THE INPUT: true; the input reads as it did. -/
def fnExactIsVerticalStripSpec : ChangeSpec := { name := "fnExactIsVerticalStrip", fn := fun _ => fun
  | [d] => { results := [.lit (.bool true)], args := [d] }
  | _ => none }
def fnExactIsVerticalStripRow : OpenClaim := { program := "ythjbkkjiggdcpaa", sum := "0616c6c9402cfc5472a5e122dd0359affb5039698e260ccc765cd0792c7a50ec", func := "loop.example/g00598/laws.FnExactIsVerticalStrip", spec := "fnExactIsVerticalStrip", apart := false }
def FnExactIsVerticalStripSaid : Prop := fnExactIsVerticalStripRow.holds Try.pinned (OpenSpec.ofChange fnExactIsVerticalStripSpec)

/-- ITS FALSE NEIGHBOUR: 'it returns false'. Refute it at one input. -/
def fnExactIsVerticalStripWrong : ChangeSpec := { name := "fnExactIsVerticalStrip", fn := fun _ => fun
  | [d] => { results := [.lit (.bool false)], args := [d] }
  | _ => none }
def FnExactIsVerticalStripWrongFalsely : Prop := fnExactIsVerticalStripRow.holds Try.pinned (OpenSpec.ofChange fnExactIsVerticalStripWrong)

/-- 'laws.FnExactRemoveBox': WHATEVER THE INPUT: true; the input reads as it did. -/
def fnExactRemoveBoxSpec : ChangeSpec := { name := "fnExactRemoveBox", fn := fun _ => fun
  | [d1, d2] => { results := [.lit (.bool true)], args := [d1, d2] }
  | _ => none }
def fnExactRemoveBoxRow : OpenClaim := { program := "ythjbkkjiggdcpaa", sum := "0616c6c9402cfc5472a5e122dd0359affb5039698e260ccc765cd0792c7a50ec", func := "loop.example/g00598/laws.FnExactRemoveBox", spec := "fnExactRemoveBox", apart := false }
def FnExactRemoveBoxSaid : Prop := fnExactRemoveBoxRow.holds Try.pinned (OpenSpec.ofChange fnExactRemoveBoxSpec)

/-- ITS FALSE NEIGHBOUR: 'it returns false'. Refute it at one input. -/
def fnExactRemoveBoxWrong : ChangeSpec := { name := "fnExactRemoveBox", fn := fun _ => fun
  | [d1, d2] => { results := [.lit (.bool false)], args := [d1, d2] }
  | _ => none }
def FnExactRemoveBoxWrongFalsely : Prop := fnExactRemoveBoxRow.holds Try.pinned (OpenSpec.ofChange fnExactRemoveBoxWrong)

/-- 'laws.FnExactCellCount': WHATEVER THE INPUT: true; the input reads as it did. -/
def fnExactCellCountSpec : ChangeSpec := { name := "fnExactCellCount", fn := fun _ => fun
  | [d] => { results := [.lit (.bool true)], args := [d] }
  | _ => none }
def fnExactCellCountRow : OpenClaim := { program := "ythjbkkjiggdcpaa", sum := "0616c6c9402cfc5472a5e122dd0359affb5039698e260ccc765cd0792c7a50ec", func := "loop.example/g00598/laws.FnExactCellCount", spec := "fnExactCellCount", apart := false }
def FnExactCellCountSaid : Prop := fnExactCellCountRow.holds Try.pinned (OpenSpec.ofChange fnExactCellCountSpec)

/-- ITS FALSE NEIGHBOUR: 'it returns false'. Refute it at one input. -/
def fnExactCellCountWrong : ChangeSpec := { name := "fnExactCellCount", fn := fun _ => fun
  | [d] => { results := [.lit (.bool false)], args := [d] }
  | _ => none }
def FnExactCellCountWrongFalsely : Prop := fnExactCellCountRow.holds Try.pinned (OpenSpec.ofChange fnExactCellCountWrong)

/-- 'laws.FnExactHookProduct': WHATEVER THE INPUT: true; the input reads as it did. -/
def fnExactHookProductSpec : ChangeSpec := { name := "fnExactHookProduct", fn := fun _ => fun
  | [d] => { results := [.lit (.bool true)], args := [d] }
  | _ => none }
def fnExactHookProductRow : OpenClaim := { program := "ythjbkkjiggdcpaa", sum := "0616c6c9402cfc5472a5e122dd0359affb5039698e260ccc765cd0792c7a50ec", func := "loop.example/g00598/laws.FnExactHookProduct", spec := "fnExactHookProduct", apart := false }
def FnExactHookProductSaid : Prop := fnExactHookProductRow.holds Try.pinned (OpenSpec.ofChange fnExactHookProductSpec)

/-- ITS FALSE NEIGHBOUR: 'it returns false'. Refute it at one input. -/
def fnExactHookProductWrong : ChangeSpec := { name := "fnExactHookProduct", fn := fun _ => fun
  | [d] => { results := [.lit (.bool false)], args := [d] }
  | _ => none }
def FnExactHookProductWrongFalsely : Prop := fnExactHookProductRow.holds Try.pinned (OpenSpec.ofChange fnExactHookProductWrong)

/-- 'laws.FnExactColumnCount': WHATEVER THE INPUT: true; the input reads as it did. -/
def fnExactColumnCountSpec : ChangeSpec := { name := "fnExactColumnCount", fn := fun _ => fun
  | [d1, d2] => { results := [.lit (.bool true)], args := [d1, d2] }
  | _ => none }
def fnExactColumnCountRow : OpenClaim := { program := "ythjbkkjiggdcpaa", sum := "0616c6c9402cfc5472a5e122dd0359affb5039698e260ccc765cd0792c7a50ec", func := "loop.example/g00598/laws.FnExactColumnCount", spec := "fnExactColumnCount", apart := false }
def FnExactColumnCountSaid : Prop := fnExactColumnCountRow.holds Try.pinned (OpenSpec.ofChange fnExactColumnCountSpec)

/-- ITS FALSE NEIGHBOUR: 'it returns false'. Refute it at one input. -/
def fnExactColumnCountWrong : ChangeSpec := { name := "fnExactColumnCount", fn := fun _ => fun
  | [d1, d2] => { results := [.lit (.bool false)], args := [d1, d2] }
  | _ => none }
def FnExactColumnCountWrongFalsely : Prop := fnExactColumnCountRow.holds Try.pinned (OpenSpec.ofChange fnExactColumnCountWrong)

/-- 'laws.FnExactHookLengths': WHATEVER THE INPUT: true; the input reads as it did. -/
def fnExactHookLengthsSpec : ChangeSpec := { name := "fnExactHookLengths", fn := fun _ => fun
  | [d] => { results := [.lit (.bool true)], args := [d] }
  | _ => none }
def fnExactHookLengthsRow : OpenClaim := { program := "ythjbkkjiggdcpaa", sum := "0616c6c9402cfc5472a5e122dd0359affb5039698e260ccc765cd0792c7a50ec", func := "loop.example/g00598/laws.FnExactHookLengths", spec := "fnExactHookLengths", apart := false }
def FnExactHookLengthsSaid : Prop := fnExactHookLengthsRow.holds Try.pinned (OpenSpec.ofChange fnExactHookLengthsSpec)

/-- ITS FALSE NEIGHBOUR: 'it returns false'. Refute it at one input. -/
def fnExactHookLengthsWrong : ChangeSpec := { name := "fnExactHookLengths", fn := fun _ => fun
  | [d] => { results := [.lit (.bool false)], args := [d] }
  | _ => none }
def FnExactHookLengthsWrongFalsely : Prop := fnExactHookLengthsRow.holds Try.pinned (OpenSpec.ofChange fnExactHookLengthsWrong)

/-- 'laws.FnExactIsRibbon': WHATEVER THE INPUT: true; the input reads as it did. -/
def fnExactIsRibbonSpec : ChangeSpec := { name := "fnExactIsRibbon", fn := fun _ => fun
  | [d] => { results := [.lit (.bool true)], args := [d] }
  | _ => none }
def fnExactIsRibbonRow : OpenClaim := { program := "ythjbkkjiggdcpaa", sum := "0616c6c9402cfc5472a5e122dd0359affb5039698e260ccc765cd0792c7a50ec", func := "loop.example/g00598/laws.FnExactIsRibbon", spec := "fnExactIsRibbon", apart := false }
def FnExactIsRibbonSaid : Prop := fnExactIsRibbonRow.holds Try.pinned (OpenSpec.ofChange fnExactIsRibbonSpec)

/-- ITS FALSE NEIGHBOUR: 'it returns false'. Refute it at one input. -/
def fnExactIsRibbonWrong : ChangeSpec := { name := "fnExactIsRibbon", fn := fun _ => fun
  | [d] => { results := [.lit (.bool false)], args := [d] }
  | _ => none }
def FnExactIsRibbonWrongFalsely : Prop := fnExactIsRibbonRow.holds Try.pinned (OpenSpec.ofChange fnExactIsRibbonWrong)

/-- 'laws.FnExactStandardCount': WHATEVER THE INPUT: true; the input reads as it did. -/
def fnExactStandardCountSpec : ChangeSpec := { name := "fnExactStandardCount", fn := fun _ => fun
  | [d] => { results := [.lit (.bool true)], args := [d] }
  | _ => none }
def fnExactStandardCountRow : OpenClaim := { program := "ythjbkkjiggdcpaa", sum := "0616c6c9402cfc5472a5e122dd0359affb5039698e260ccc765cd0792c7a50ec", func := "loop.example/g00598/laws.FnExactStandardCount", spec := "fnExactStandardCount", apart := false }
def FnExactStandardCountSaid : Prop := fnExactStandardCountRow.holds Try.pinned (OpenSpec.ofChange fnExactStandardCountSpec)

/-- ITS FALSE NEIGHBOUR: 'it returns false'. Refute it at one input. -/
def fnExactStandardCountWrong : ChangeSpec := { name := "fnExactStandardCount", fn := fun _ => fun
  | [d] => { results := [.lit (.bool false)], args := [d] }
  | _ => none }
def FnExactStandardCountWrongFalsely : Prop := fnExactStandardCountRow.holds Try.pinned (OpenSpec.ofChange fnExactStandardCountWrong)

/-- 'laws.FnExactRibbonHeight': WHATEVER THE INPUT: true; the input reads as it did. -/
def fnExactRibbonHeightSpec : ChangeSpec := { name := "fnExactRibbonHeight", fn := fun _ => fun
  | [d] => { results := [.lit (.bool true)], args := [d] }
  | _ => none }
def fnExactRibbonHeightRow : OpenClaim := { program := "ythjbkkjiggdcpaa", sum := "0616c6c9402cfc5472a5e122dd0359affb5039698e260ccc765cd0792c7a50ec", func := "loop.example/g00598/laws.FnExactRibbonHeight", spec := "fnExactRibbonHeight", apart := false }
def FnExactRibbonHeightSaid : Prop := fnExactRibbonHeightRow.holds Try.pinned (OpenSpec.ofChange fnExactRibbonHeightSpec)

/-- ITS FALSE NEIGHBOUR: 'it returns false'. Refute it at one input. -/
def fnExactRibbonHeightWrong : ChangeSpec := { name := "fnExactRibbonHeight", fn := fun _ => fun
  | [d] => { results := [.lit (.bool false)], args := [d] }
  | _ => none }
def FnExactRibbonHeightWrongFalsely : Prop := fnExactRibbonHeightRow.holds Try.pinned (OpenSpec.ofChange fnExactRibbonHeightWrong)

/-- 'laws.FnExactTurnShape': WHATEVER THE INPUT: true; the input reads as it did. -/
def fnExactTurnShapeSpec : ChangeSpec := { name := "fnExactTurnShape", fn := fun _ => fun
  | [d] => { results := [.lit (.bool true)], args := [d] }
  | _ => none }
def fnExactTurnShapeRow : OpenClaim := { program := "ythjbkkjiggdcpaa", sum := "0616c6c9402cfc5472a5e122dd0359affb5039698e260ccc765cd0792c7a50ec", func := "loop.example/g00598/laws.FnExactTurnShape", spec := "fnExactTurnShape", apart := false }
def FnExactTurnShapeSaid : Prop := fnExactTurnShapeRow.holds Try.pinned (OpenSpec.ofChange fnExactTurnShapeSpec)

/-- ITS FALSE NEIGHBOUR: 'it returns false'. Refute it at one input. -/
def fnExactTurnShapeWrong : ChangeSpec := { name := "fnExactTurnShape", fn := fun _ => fun
  | [d] => { results := [.lit (.bool false)], args := [d] }
  | _ => none }
def FnExactTurnShapeWrongFalsely : Prop := fnExactTurnShapeRow.holds Try.pinned (OpenSpec.ofChange fnExactTurnShapeWrong)

/- THE SECOND FORM. 'bulk': how many values and letters a reading holds, each counted each time it is reached (what is shared counts as often as it is met; a slice's spare places count too). A statement '..UptoSaid' is the law's where the arguments, and the package variables that the reading takes, are together of bulk at most 1048576: NARROWER than '..Said'. Prove '..Said' where nothing that the law and all that it calls make is longer than what came in: it says more and counts as full. Else prove '..UptoSaid'. A law counts once. -/
mutual
def uptoBulk {H : Type} : DataW H → Nat
  | .lit (.string bytes) => bytes.length + 1
  | .lit _ => 1
  | .nil => 1
  | .ptr d => uptoBulk d + 1
  | .slice elems spare => uptoBulkAll elems + uptoBulkAll spare + 1
  | .agg parts => uptoBulkAll parts + 1
  | .iface _ d => uptoBulk d + 1
  | .map entries => uptoBulkEntries entries + 1
  | .held _ => 1
def uptoBulkAll {H : Type} : List (DataW H) → Nat
  | [] => 0
  | d :: r => uptoBulk d + uptoBulkAll r
def uptoBulkEntries {H : Type} : List (Lit × DataW H) → Nat
  | [] => 0
  | x :: r => uptoBulkEntry x + uptoBulkEntries r
def uptoBulkEntry {H : Type} : Lit × DataW H → Nat
  | (.string bytes, d) => bytes.length + uptoBulk d + 1
  | (_, d) => uptoBulk d + 1
 end
def uptoSmall : (H : Type) → List (DataW H) → Bool := fun _ ds => decide (uptoBulkAll ds ≤ 1048576)
def OpenSpec.upto (s : _root_.Go.ChangeSpec) : _root_.Go.OpenSpec := { _root_.Go.OpenSpec.ofChange s with cond := some uptoSmall }

/-- 'laws.FnExactHookOf', WHERE WHAT IT READS IS OF BULK AT MOST 1048576: true; the input reads as it did. -/
def fnExactHookOfUptoRow : OpenClaim := { program := "ythjbkkjiggdcpaa", sum := "0616c6c9402cfc5472a5e122dd0359affb5039698e260ccc765cd0792c7a50ec", func := "loop.example/g00598/laws.FnExactHookOf", spec := "fnExactHookOf", apart := false, narrowed := true }
def FnExactHookOfUptoSaid : Prop := fnExactHookOfUptoRow.holds Try.pinned (OpenSpec.upto fnExactHookOfSpec)

/-- 'laws.FnExactConjugate', WHERE WHAT IT READS IS OF BULK AT MOST 1048576: true; the input reads as it did. -/
def fnExactConjugateUptoRow : OpenClaim := { program := "ythjbkkjiggdcpaa", sum := "0616c6c9402cfc5472a5e122dd0359affb5039698e260ccc765cd0792c7a50ec", func := "loop.example/g00598/laws.FnExactConjugate", spec := "fnExactConjugate", apart := false, narrowed := true }
def FnExactConjugateUptoSaid : Prop := fnExactConjugateUptoRow.holds Try.pinned (OpenSpec.upto fnExactConjugateSpec)

/-- 'laws.FnExactIsShape', WHERE WHAT IT READS IS OF BULK AT MOST 1048576: true; the input reads as it did. -/
def fnExactIsShapeUptoRow : OpenClaim := { program := "ythjbkkjiggdcpaa", sum := "0616c6c9402cfc5472a5e122dd0359affb5039698e260ccc765cd0792c7a50ec", func := "loop.example/g00598/laws.FnExactIsShape", spec := "fnExactIsShape", apart := false, narrowed := true }
def FnExactIsShapeUptoSaid : Prop := fnExactIsShapeUptoRow.holds Try.pinned (OpenSpec.upto fnExactIsShapeSpec)

/-- 'laws.FnExactDominates', WHERE WHAT IT READS IS OF BULK AT MOST 1048576: true; the input reads as it did. -/
def fnExactDominatesUptoRow : OpenClaim := { program := "ythjbkkjiggdcpaa", sum := "0616c6c9402cfc5472a5e122dd0359affb5039698e260ccc765cd0792c7a50ec", func := "loop.example/g00598/laws.FnExactDominates", spec := "fnExactDominates", apart := false, narrowed := true }
def FnExactDominatesUptoSaid : Prop := fnExactDominatesUptoRow.holds Try.pinned (OpenSpec.upto fnExactDominatesSpec)

/-- 'laws.FnExactIsHorizontalStrip', WHERE WHAT IT READS IS OF BULK AT MOST 1048576: true; the input reads as it did. -/
def fnExactIsHorizontalStripUptoRow : OpenClaim := { program := "ythjbkkjiggdcpaa", sum := "0616c6c9402cfc5472a5e122dd0359affb5039698e260ccc765cd0792c7a50ec", func := "loop.example/g00598/laws.FnExactIsHorizontalStrip", spec := "fnExactIsHorizontalStrip", apart := false, narrowed := true }
def FnExactIsHorizontalStripUptoSaid : Prop := fnExactIsHorizontalStripUptoRow.holds Try.pinned (OpenSpec.upto fnExactIsHorizontalStripSpec)

/-- 'laws.FnExactIsVerticalStrip', WHERE WHAT IT READS IS OF BULK AT MOST 1048576: true; the input reads as it did. -/
def fnExactIsVerticalStripUptoRow : OpenClaim := { program := "ythjbkkjiggdcpaa", sum := "0616c6c9402cfc5472a5e122dd0359affb5039698e260ccc765cd0792c7a50ec", func := "loop.example/g00598/laws.FnExactIsVerticalStrip", spec := "fnExactIsVerticalStrip", apart := false, narrowed := true }
def FnExactIsVerticalStripUptoSaid : Prop := fnExactIsVerticalStripUptoRow.holds Try.pinned (OpenSpec.upto fnExactIsVerticalStripSpec)

/-- 'laws.FnExactRemoveBox', WHERE WHAT IT READS IS OF BULK AT MOST 1048576: true; the input reads as it did. -/
def fnExactRemoveBoxUptoRow : OpenClaim := { program := "ythjbkkjiggdcpaa", sum := "0616c6c9402cfc5472a5e122dd0359affb5039698e260ccc765cd0792c7a50ec", func := "loop.example/g00598/laws.FnExactRemoveBox", spec := "fnExactRemoveBox", apart := false, narrowed := true }
def FnExactRemoveBoxUptoSaid : Prop := fnExactRemoveBoxUptoRow.holds Try.pinned (OpenSpec.upto fnExactRemoveBoxSpec)

/-- 'laws.FnExactCellCount', WHERE WHAT IT READS IS OF BULK AT MOST 1048576: true; the input reads as it did. -/
def fnExactCellCountUptoRow : OpenClaim := { program := "ythjbkkjiggdcpaa", sum := "0616c6c9402cfc5472a5e122dd0359affb5039698e260ccc765cd0792c7a50ec", func := "loop.example/g00598/laws.FnExactCellCount", spec := "fnExactCellCount", apart := false, narrowed := true }
def FnExactCellCountUptoSaid : Prop := fnExactCellCountUptoRow.holds Try.pinned (OpenSpec.upto fnExactCellCountSpec)

/-- 'laws.FnExactHookProduct', WHERE WHAT IT READS IS OF BULK AT MOST 1048576: true; the input reads as it did. -/
def fnExactHookProductUptoRow : OpenClaim := { program := "ythjbkkjiggdcpaa", sum := "0616c6c9402cfc5472a5e122dd0359affb5039698e260ccc765cd0792c7a50ec", func := "loop.example/g00598/laws.FnExactHookProduct", spec := "fnExactHookProduct", apart := false, narrowed := true }
def FnExactHookProductUptoSaid : Prop := fnExactHookProductUptoRow.holds Try.pinned (OpenSpec.upto fnExactHookProductSpec)

/-- 'laws.FnExactColumnCount', WHERE WHAT IT READS IS OF BULK AT MOST 1048576: true; the input reads as it did. -/
def fnExactColumnCountUptoRow : OpenClaim := { program := "ythjbkkjiggdcpaa", sum := "0616c6c9402cfc5472a5e122dd0359affb5039698e260ccc765cd0792c7a50ec", func := "loop.example/g00598/laws.FnExactColumnCount", spec := "fnExactColumnCount", apart := false, narrowed := true }
def FnExactColumnCountUptoSaid : Prop := fnExactColumnCountUptoRow.holds Try.pinned (OpenSpec.upto fnExactColumnCountSpec)

/-- 'laws.FnExactHookLengths', WHERE WHAT IT READS IS OF BULK AT MOST 1048576: true; the input reads as it did. -/
def fnExactHookLengthsUptoRow : OpenClaim := { program := "ythjbkkjiggdcpaa", sum := "0616c6c9402cfc5472a5e122dd0359affb5039698e260ccc765cd0792c7a50ec", func := "loop.example/g00598/laws.FnExactHookLengths", spec := "fnExactHookLengths", apart := false, narrowed := true }
def FnExactHookLengthsUptoSaid : Prop := fnExactHookLengthsUptoRow.holds Try.pinned (OpenSpec.upto fnExactHookLengthsSpec)

/-- 'laws.FnExactIsRibbon', WHERE WHAT IT READS IS OF BULK AT MOST 1048576: true; the input reads as it did. -/
def fnExactIsRibbonUptoRow : OpenClaim := { program := "ythjbkkjiggdcpaa", sum := "0616c6c9402cfc5472a5e122dd0359affb5039698e260ccc765cd0792c7a50ec", func := "loop.example/g00598/laws.FnExactIsRibbon", spec := "fnExactIsRibbon", apart := false, narrowed := true }
def FnExactIsRibbonUptoSaid : Prop := fnExactIsRibbonUptoRow.holds Try.pinned (OpenSpec.upto fnExactIsRibbonSpec)

/-- 'laws.FnExactStandardCount', WHERE WHAT IT READS IS OF BULK AT MOST 1048576: true; the input reads as it did. -/
def fnExactStandardCountUptoRow : OpenClaim := { program := "ythjbkkjiggdcpaa", sum := "0616c6c9402cfc5472a5e122dd0359affb5039698e260ccc765cd0792c7a50ec", func := "loop.example/g00598/laws.FnExactStandardCount", spec := "fnExactStandardCount", apart := false, narrowed := true }
def FnExactStandardCountUptoSaid : Prop := fnExactStandardCountUptoRow.holds Try.pinned (OpenSpec.upto fnExactStandardCountSpec)

/-- 'laws.FnExactRibbonHeight', WHERE WHAT IT READS IS OF BULK AT MOST 1048576: true; the input reads as it did. -/
def fnExactRibbonHeightUptoRow : OpenClaim := { program := "ythjbkkjiggdcpaa", sum := "0616c6c9402cfc5472a5e122dd0359affb5039698e260ccc765cd0792c7a50ec", func := "loop.example/g00598/laws.FnExactRibbonHeight", spec := "fnExactRibbonHeight", apart := false, narrowed := true }
def FnExactRibbonHeightUptoSaid : Prop := fnExactRibbonHeightUptoRow.holds Try.pinned (OpenSpec.upto fnExactRibbonHeightSpec)

/-- 'laws.FnExactTurnShape', WHERE WHAT IT READS IS OF BULK AT MOST 1048576: true; the input reads as it did. -/
def fnExactTurnShapeUptoRow : OpenClaim := { program := "ythjbkkjiggdcpaa", sum := "0616c6c9402cfc5472a5e122dd0359affb5039698e260ccc765cd0792c7a50ec", func := "loop.example/g00598/laws.FnExactTurnShape", spec := "fnExactTurnShape", apart := false, narrowed := true }
def FnExactTurnShapeUptoSaid : Prop := fnExactTurnShapeUptoRow.holds Try.pinned (OpenSpec.upto fnExactTurnShapeSpec)

end Rows
end Go.Proofs.Ythjbkkjiggdcpaa
