/-
  No cell of these rows narrows 'for every input' (looked for: loops, veiled, ifaces, maps, wideKeys, modest, calm, conditions, laid).
  DERIVED. THE GIVEN ROWS OF THIS SEAT. 10 by the template 'for every input the law returns true; each argument reads behind the call as it read before'; 0 by the template 'total and deterministic' (their statements: YtcnpdiiecopccaaTotals.lean).
  GIVEN WITH THE SEED: the statements are not yours to turn. If you find one false, say at which input.
  Laid BY PROGRAM, IN A SANDBOX (cutbox-rows.mjs): the forced cells as the released guide's own fill.sh prints them over the translation 1b9ca6db1b95fc1c… (all of the seat's roots in one cut). By AI agents, Wed Nov 11 2026. No macro, syntax, notation, axiom, sorry.
-/
import Derived.Test.YtcnpdiiecopccaaChecked
import GoSem.Claim
import GoSem.ClaimJoined
import GoSem.ClaimMapViews
import Derived.JoinedTies
import Derived.KernelRfl
namespace Go.Proofs.Ytcnpdiiecopccaa
/- THE CELL 'sum', in the pinned program and in every row, IS THE sha256 OF THE DUMP (.gsa) THAT YtcnpdiiecopccaaProg.lean LOADS. Nothing in Lean hashes anything: it is a label: what it is worth is what the hold of that sum in a sandbox is worth. -/
noncomputable def Try.pinned : Pinned := { name := "ytcnpdiiecopccaa", sum := "1b9ca6db1b95fc1c7d9ca426d8eae27886bf7550e32bb68c587b12008697b0f1", checked := Try.checked }
namespace Rows
def none {H : Type} : Left H := { results := [], args := [] }

/-- 'laws.FnExactIsPartition': WHATEVER THE INPUT: true; the input reads as it did. -/
def fnExactIsPartitionSpec : ChangeSpec := { name := "fnExactIsPartition", fn := fun _ => fun
  | [d] => { results := [.lit (.bool true)], args := [d] }
  | _ => none }
def fnExactIsPartitionRow : OpenClaim := { program := "ytcnpdiiecopccaa", sum := "1b9ca6db1b95fc1c7d9ca426d8eae27886bf7550e32bb68c587b12008697b0f1", func := "loop.example/g00598/laws.FnExactIsPartition", spec := "fnExactIsPartition", apart := false }
def FnExactIsPartitionSaid : Prop := fnExactIsPartitionRow.holds Try.pinned (OpenSpec.ofChange fnExactIsPartitionSpec)

/-- ITS FALSE NEIGHBOUR: 'it returns false'. Refute it at one input. -/
def fnExactIsPartitionWrong : ChangeSpec := { name := "fnExactIsPartition", fn := fun _ => fun
  | [d] => { results := [.lit (.bool false)], args := [d] }
  | _ => none }
def FnExactIsPartitionWrongFalsely : Prop := fnExactIsPartitionRow.holds Try.pinned (OpenSpec.ofChange fnExactIsPartitionWrong)

/-- 'laws.FnExactArmOf': WHATEVER THE INPUT: true; the input reads as it did. -/
def fnExactArmOfSpec : ChangeSpec := { name := "fnExactArmOf", fn := fun _ => fun
  | [d1, d2, d3] => { results := [.lit (.bool true)], args := [d1, d2, d3] }
  | _ => none }
def fnExactArmOfRow : OpenClaim := { program := "ytcnpdiiecopccaa", sum := "1b9ca6db1b95fc1c7d9ca426d8eae27886bf7550e32bb68c587b12008697b0f1", func := "loop.example/g00598/laws.FnExactArmOf", spec := "fnExactArmOf", apart := false }
def FnExactArmOfSaid : Prop := fnExactArmOfRow.holds Try.pinned (OpenSpec.ofChange fnExactArmOfSpec)

/-- ITS FALSE NEIGHBOUR: 'it returns false'. Refute it at one input. -/
def fnExactArmOfWrong : ChangeSpec := { name := "fnExactArmOf", fn := fun _ => fun
  | [d1, d2, d3] => { results := [.lit (.bool false)], args := [d1, d2, d3] }
  | _ => none }
def FnExactArmOfWrongFalsely : Prop := fnExactArmOfRow.holds Try.pinned (OpenSpec.ofChange fnExactArmOfWrong)

/-- 'laws.FnExactContentOf': WHATEVER THE INPUT: true; the input reads as it did. -/
def fnExactContentOfSpec : ChangeSpec := { name := "fnExactContentOf", fn := fun _ => fun
  | [d1, d2, d3] => { results := [.lit (.bool true)], args := [d1, d2, d3] }
  | _ => none }
def fnExactContentOfRow : OpenClaim := { program := "ytcnpdiiecopccaa", sum := "1b9ca6db1b95fc1c7d9ca426d8eae27886bf7550e32bb68c587b12008697b0f1", func := "loop.example/g00598/laws.FnExactContentOf", spec := "fnExactContentOf", apart := false }
def FnExactContentOfSaid : Prop := fnExactContentOfRow.holds Try.pinned (OpenSpec.ofChange fnExactContentOfSpec)

/-- ITS FALSE NEIGHBOUR: 'it returns false'. Refute it at one input. -/
def fnExactContentOfWrong : ChangeSpec := { name := "fnExactContentOf", fn := fun _ => fun
  | [d1, d2, d3] => { results := [.lit (.bool false)], args := [d1, d2, d3] }
  | _ => none }
def FnExactContentOfWrongFalsely : Prop := fnExactContentOfRow.holds Try.pinned (OpenSpec.ofChange fnExactContentOfWrong)

/-- 'laws.FnExactSizeOf': WHATEVER THE INPUT: true; the input reads as it did. -/
def fnExactSizeOfSpec : ChangeSpec := { name := "fnExactSizeOf", fn := fun _ => fun
  | [d] => { results := [.lit (.bool true)], args := [d] }
  | _ => none }
def fnExactSizeOfRow : OpenClaim := { program := "ytcnpdiiecopccaa", sum := "1b9ca6db1b95fc1c7d9ca426d8eae27886bf7550e32bb68c587b12008697b0f1", func := "loop.example/g00598/laws.FnExactSizeOf", spec := "fnExactSizeOf", apart := false }
def FnExactSizeOfSaid : Prop := fnExactSizeOfRow.holds Try.pinned (OpenSpec.ofChange fnExactSizeOfSpec)

/-- ITS FALSE NEIGHBOUR: 'it returns false'. Refute it at one input. -/
def fnExactSizeOfWrong : ChangeSpec := { name := "fnExactSizeOf", fn := fun _ => fun
  | [d] => { results := [.lit (.bool false)], args := [d] }
  | _ => none }
def FnExactSizeOfWrongFalsely : Prop := fnExactSizeOfRow.holds Try.pinned (OpenSpec.ofChange fnExactSizeOfWrong)

/-- 'laws.FnExactIsInside': WHATEVER THE INPUT: true; the input reads as it did. -/
def fnExactIsInsideSpec : ChangeSpec := { name := "fnExactIsInside", fn := fun _ => fun
  | [d1, d2] => { results := [.lit (.bool true)], args := [d1, d2] }
  | _ => none }
def fnExactIsInsideRow : OpenClaim := { program := "ytcnpdiiecopccaa", sum := "1b9ca6db1b95fc1c7d9ca426d8eae27886bf7550e32bb68c587b12008697b0f1", func := "loop.example/g00598/laws.FnExactIsInside", spec := "fnExactIsInside", apart := false }
def FnExactIsInsideSaid : Prop := fnExactIsInsideRow.holds Try.pinned (OpenSpec.ofChange fnExactIsInsideSpec)

/-- ITS FALSE NEIGHBOUR: 'it returns false'. Refute it at one input. -/
def fnExactIsInsideWrong : ChangeSpec := { name := "fnExactIsInside", fn := fun _ => fun
  | [d1, d2] => { results := [.lit (.bool false)], args := [d1, d2] }
  | _ => none }
def FnExactIsInsideWrongFalsely : Prop := fnExactIsInsideRow.holds Try.pinned (OpenSpec.ofChange fnExactIsInsideWrong)

/-- 'laws.FnExactLegOf': WHATEVER THE INPUT: true; the input reads as it did. -/
def fnExactLegOfSpec : ChangeSpec := { name := "fnExactLegOf", fn := fun _ => fun
  | [d1, d2, d3] => { results := [.lit (.bool true)], args := [d1, d2, d3] }
  | _ => none }
def fnExactLegOfRow : OpenClaim := { program := "ytcnpdiiecopccaa", sum := "1b9ca6db1b95fc1c7d9ca426d8eae27886bf7550e32bb68c587b12008697b0f1", func := "loop.example/g00598/laws.FnExactLegOf", spec := "fnExactLegOf", apart := false }
def FnExactLegOfSaid : Prop := fnExactLegOfRow.holds Try.pinned (OpenSpec.ofChange fnExactLegOfSpec)

/-- ITS FALSE NEIGHBOUR: 'it returns false'. Refute it at one input. -/
def fnExactLegOfWrong : ChangeSpec := { name := "fnExactLegOf", fn := fun _ => fun
  | [d1, d2, d3] => { results := [.lit (.bool false)], args := [d1, d2, d3] }
  | _ => none }
def FnExactLegOfWrongFalsely : Prop := fnExactLegOfRow.holds Try.pinned (OpenSpec.ofChange fnExactLegOfWrong)

/-- 'laws.FnExactEqualShape': WHATEVER THE INPUT: true; the input reads as it did. -/
def fnExactEqualShapeSpec : ChangeSpec := { name := "fnExactEqualShape", fn := fun _ => fun
  | [d1, d2] => { results := [.lit (.bool true)], args := [d1, d2] }
  | _ => none }
def fnExactEqualShapeRow : OpenClaim := { program := "ytcnpdiiecopccaa", sum := "1b9ca6db1b95fc1c7d9ca426d8eae27886bf7550e32bb68c587b12008697b0f1", func := "loop.example/g00598/laws.FnExactEqualShape", spec := "fnExactEqualShape", apart := false }
def FnExactEqualShapeSaid : Prop := fnExactEqualShapeRow.holds Try.pinned (OpenSpec.ofChange fnExactEqualShapeSpec)

/-- ITS FALSE NEIGHBOUR: 'it returns false'. Refute it at one input. -/
def fnExactEqualShapeWrong : ChangeSpec := { name := "fnExactEqualShape", fn := fun _ => fun
  | [d1, d2] => { results := [.lit (.bool false)], args := [d1, d2] }
  | _ => none }
def FnExactEqualShapeWrongFalsely : Prop := fnExactEqualShapeRow.holds Try.pinned (OpenSpec.ofChange fnExactEqualShapeWrong)

/-- 'laws.FnExactCorners': WHATEVER THE INPUT: true; the input reads as it did. -/
def fnExactCornersSpec : ChangeSpec := { name := "fnExactCorners", fn := fun _ => fun
  | [d] => { results := [.lit (.bool true)], args := [d] }
  | _ => none }
def fnExactCornersRow : OpenClaim := { program := "ytcnpdiiecopccaa", sum := "1b9ca6db1b95fc1c7d9ca426d8eae27886bf7550e32bb68c587b12008697b0f1", func := "loop.example/g00598/laws.FnExactCorners", spec := "fnExactCorners", apart := false }
def FnExactCornersSaid : Prop := fnExactCornersRow.holds Try.pinned (OpenSpec.ofChange fnExactCornersSpec)

/-- ITS FALSE NEIGHBOUR: 'it returns false'. Refute it at one input. -/
def fnExactCornersWrong : ChangeSpec := { name := "fnExactCorners", fn := fun _ => fun
  | [d] => { results := [.lit (.bool false)], args := [d] }
  | _ => none }
def FnExactCornersWrongFalsely : Prop := fnExactCornersRow.holds Try.pinned (OpenSpec.ofChange fnExactCornersWrong)

/-- 'laws.FnExactPartitionsOf': WHATEVER THE INPUT: true; the input reads as it did. -/
def fnExactPartitionsOfSpec : ChangeSpec := { name := "fnExactPartitionsOf", fn := fun _ => fun
  | [d] => { results := [.lit (.bool true)], args := [d] }
  | _ => none }
def fnExactPartitionsOfRow : OpenClaim := { program := "ytcnpdiiecopccaa", sum := "1b9ca6db1b95fc1c7d9ca426d8eae27886bf7550e32bb68c587b12008697b0f1", func := "loop.example/g00598/laws.FnExactPartitionsOf", spec := "fnExactPartitionsOf", recurses := true, apart := false }
def FnExactPartitionsOfSaid : Prop := fnExactPartitionsOfRow.holds Try.pinned (OpenSpec.ofChange fnExactPartitionsOfSpec)

/-- ITS FALSE NEIGHBOUR: 'it returns false'. Refute it at one input. -/
def fnExactPartitionsOfWrong : ChangeSpec := { name := "fnExactPartitionsOf", fn := fun _ => fun
  | [d] => { results := [.lit (.bool false)], args := [d] }
  | _ => none }
def FnExactPartitionsOfWrongFalsely : Prop := fnExactPartitionsOfRow.holds Try.pinned (OpenSpec.ofChange fnExactPartitionsOfWrong)

/-- 'laws.FnExactAddBox': WHATEVER THE INPUT: true; the input reads as it did. -/
def fnExactAddBoxSpec : ChangeSpec := { name := "fnExactAddBox", fn := fun _ => fun
  | [d1, d2] => { results := [.lit (.bool true)], args := [d1, d2] }
  | _ => none }
def fnExactAddBoxRow : OpenClaim := { program := "ytcnpdiiecopccaa", sum := "1b9ca6db1b95fc1c7d9ca426d8eae27886bf7550e32bb68c587b12008697b0f1", func := "loop.example/g00598/laws.FnExactAddBox", spec := "fnExactAddBox", apart := false }
def FnExactAddBoxSaid : Prop := fnExactAddBoxRow.holds Try.pinned (OpenSpec.ofChange fnExactAddBoxSpec)

/-- ITS FALSE NEIGHBOUR: 'it returns false'. Refute it at one input. -/
def fnExactAddBoxWrong : ChangeSpec := { name := "fnExactAddBox", fn := fun _ => fun
  | [d1, d2] => { results := [.lit (.bool false)], args := [d1, d2] }
  | _ => none }
def FnExactAddBoxWrongFalsely : Prop := fnExactAddBoxRow.holds Try.pinned (OpenSpec.ofChange fnExactAddBoxWrong)

/- THE SECOND FORM. 'bulk': how many values and letters a reading holds, each counted each time it is reached (what is shared counts as often as it is met; a slice's spare places count too). A statement '..UptoSaid' is the law's where the arguments, and the package variables that the reading takes, are together of bulk at most 1048576: NARROWER than '..Said'. Prove '..Said' where nothing that the law and all that it calls make is longer than what came in: it says more and counts as full. Else prove '..UptoSaid'. A law counts once. -/
mutual
def uptoBulk {H : Type} : DataW H → Nat
  | .lit (.string bytes) => bytes.length + 1
  | .lit _ => 1
  | .nil => 1
  | .ptr d => uptoBulk d + 1
  | .slice elems spare => uptoBulkAll elems + uptoBulkAll spare + 1
  | .agg parts => uptoBulkAll parts + 1
  | .iface _ d => uptoBulk d + 1
  | .map entries => uptoBulkEntries entries + 1
  | .held _ => 1
def uptoBulkAll {H : Type} : List (DataW H) → Nat
  | [] => 0
  | d :: r => uptoBulk d + uptoBulkAll r
def uptoBulkEntries {H : Type} : List (Lit × DataW H) → Nat
  | [] => 0
  | x :: r => uptoBulkEntry x + uptoBulkEntries r
def uptoBulkEntry {H : Type} : Lit × DataW H → Nat
  | (.string bytes, d) => bytes.length + uptoBulk d + 1
  | (_, d) => uptoBulk d + 1
 end
def uptoSmall : (H : Type) → List (DataW H) → Bool := fun _ ds => decide (uptoBulkAll ds ≤ 1048576)
def OpenSpec.upto (s : _root_.Go.ChangeSpec) : _root_.Go.OpenSpec := { _root_.Go.OpenSpec.ofChange s with cond := some uptoSmall }

/-- 'laws.FnExactIsPartition', WHERE WHAT IT READS IS OF BULK AT MOST 1048576: true; the input reads as it did. -/
def fnExactIsPartitionUptoRow : OpenClaim := { program := "ytcnpdiiecopccaa", sum := "1b9ca6db1b95fc1c7d9ca426d8eae27886bf7550e32bb68c587b12008697b0f1", func := "loop.example/g00598/laws.FnExactIsPartition", spec := "fnExactIsPartition", apart := false, narrowed := true }
def FnExactIsPartitionUptoSaid : Prop := fnExactIsPartitionUptoRow.holds Try.pinned (OpenSpec.upto fnExactIsPartitionSpec)

/-- 'laws.FnExactArmOf', WHERE WHAT IT READS IS OF BULK AT MOST 1048576: true; the input reads as it did. -/
def fnExactArmOfUptoRow : OpenClaim := { program := "ytcnpdiiecopccaa", sum := "1b9ca6db1b95fc1c7d9ca426d8eae27886bf7550e32bb68c587b12008697b0f1", func := "loop.example/g00598/laws.FnExactArmOf", spec := "fnExactArmOf", apart := false, narrowed := true }
def FnExactArmOfUptoSaid : Prop := fnExactArmOfUptoRow.holds Try.pinned (OpenSpec.upto fnExactArmOfSpec)

/-- 'laws.FnExactContentOf', WHERE WHAT IT READS IS OF BULK AT MOST 1048576: true; the input reads as it did. -/
def fnExactContentOfUptoRow : OpenClaim := { program := "ytcnpdiiecopccaa", sum := "1b9ca6db1b95fc1c7d9ca426d8eae27886bf7550e32bb68c587b12008697b0f1", func := "loop.example/g00598/laws.FnExactContentOf", spec := "fnExactContentOf", apart := false, narrowed := true }
def FnExactContentOfUptoSaid : Prop := fnExactContentOfUptoRow.holds Try.pinned (OpenSpec.upto fnExactContentOfSpec)

/-- 'laws.FnExactSizeOf', WHERE WHAT IT READS IS OF BULK AT MOST 1048576: true; the input reads as it did. -/
def fnExactSizeOfUptoRow : OpenClaim := { program := "ytcnpdiiecopccaa", sum := "1b9ca6db1b95fc1c7d9ca426d8eae27886bf7550e32bb68c587b12008697b0f1", func := "loop.example/g00598/laws.FnExactSizeOf", spec := "fnExactSizeOf", apart := false, narrowed := true }
def FnExactSizeOfUptoSaid : Prop := fnExactSizeOfUptoRow.holds Try.pinned (OpenSpec.upto fnExactSizeOfSpec)

/-- 'laws.FnExactIsInside', WHERE WHAT IT READS IS OF BULK AT MOST 1048576: true; the input reads as it did. -/
def fnExactIsInsideUptoRow : OpenClaim := { program := "ytcnpdiiecopccaa", sum := "1b9ca6db1b95fc1c7d9ca426d8eae27886bf7550e32bb68c587b12008697b0f1", func := "loop.example/g00598/laws.FnExactIsInside", spec := "fnExactIsInside", apart := false, narrowed := true }
def FnExactIsInsideUptoSaid : Prop := fnExactIsInsideUptoRow.holds Try.pinned (OpenSpec.upto fnExactIsInsideSpec)

/-- 'laws.FnExactLegOf', WHERE WHAT IT READS IS OF BULK AT MOST 1048576: true; the input reads as it did. -/
def fnExactLegOfUptoRow : OpenClaim := { program := "ytcnpdiiecopccaa", sum := "1b9ca6db1b95fc1c7d9ca426d8eae27886bf7550e32bb68c587b12008697b0f1", func := "loop.example/g00598/laws.FnExactLegOf", spec := "fnExactLegOf", apart := false, narrowed := true }
def FnExactLegOfUptoSaid : Prop := fnExactLegOfUptoRow.holds Try.pinned (OpenSpec.upto fnExactLegOfSpec)

/-- 'laws.FnExactEqualShape', WHERE WHAT IT READS IS OF BULK AT MOST 1048576: true; the input reads as it did. -/
def fnExactEqualShapeUptoRow : OpenClaim := { program := "ytcnpdiiecopccaa", sum := "1b9ca6db1b95fc1c7d9ca426d8eae27886bf7550e32bb68c587b12008697b0f1", func := "loop.example/g00598/laws.FnExactEqualShape", spec := "fnExactEqualShape", apart := false, narrowed := true }
def FnExactEqualShapeUptoSaid : Prop := fnExactEqualShapeUptoRow.holds Try.pinned (OpenSpec.upto fnExactEqualShapeSpec)

/-- 'laws.FnExactCorners', WHERE WHAT IT READS IS OF BULK AT MOST 1048576: true; the input reads as it did. -/
def fnExactCornersUptoRow : OpenClaim := { program := "ytcnpdiiecopccaa", sum := "1b9ca6db1b95fc1c7d9ca426d8eae27886bf7550e32bb68c587b12008697b0f1", func := "loop.example/g00598/laws.FnExactCorners", spec := "fnExactCorners", apart := false, narrowed := true }
def FnExactCornersUptoSaid : Prop := fnExactCornersUptoRow.holds Try.pinned (OpenSpec.upto fnExactCornersSpec)

/-- 'laws.FnExactPartitionsOf', WHERE WHAT IT READS IS OF BULK AT MOST 1048576: true; the input reads as it did. -/
def fnExactPartitionsOfUptoRow : OpenClaim := { program := "ytcnpdiiecopccaa", sum := "1b9ca6db1b95fc1c7d9ca426d8eae27886bf7550e32bb68c587b12008697b0f1", func := "loop.example/g00598/laws.FnExactPartitionsOf", spec := "fnExactPartitionsOf", recurses := true, apart := false, narrowed := true }
def FnExactPartitionsOfUptoSaid : Prop := fnExactPartitionsOfUptoRow.holds Try.pinned (OpenSpec.upto fnExactPartitionsOfSpec)

/-- 'laws.FnExactAddBox', WHERE WHAT IT READS IS OF BULK AT MOST 1048576: true; the input reads as it did. -/
def fnExactAddBoxUptoRow : OpenClaim := { program := "ytcnpdiiecopccaa", sum := "1b9ca6db1b95fc1c7d9ca426d8eae27886bf7550e32bb68c587b12008697b0f1", func := "loop.example/g00598/laws.FnExactAddBox", spec := "fnExactAddBox", apart := false, narrowed := true }
def FnExactAddBoxUptoSaid : Prop := fnExactAddBoxUptoRow.holds Try.pinned (OpenSpec.upto fnExactAddBoxSpec)

end Rows
end Go.Proofs.Ytcnpdiiecopccaa
