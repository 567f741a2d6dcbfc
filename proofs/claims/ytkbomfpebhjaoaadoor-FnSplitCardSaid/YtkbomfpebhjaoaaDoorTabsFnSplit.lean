/- This session's own text: what the listed variables hold, as the walks of the law FnSplit ask it, and that it stays so below. No condition. -/
import Derived.Test.YtkbomfpebhjaoaaDoorShelf
import Derived.Test.YtkbomfpebhjaoaaDoorWMore
import Derived.Test.YtkbomfpebhjaoaaDoorWKept
import Derived.Lib.SmallJoins
import Derived.Lib.AppendIntMem
import Derived.Lib.SplitLaws
namespace Go.Proofs.YtkbomfpebhjaoaaDoor.QFnSplit
open Go.RowKit Go.Proofs.YtkbomfpebhjaoaaDoorW.PrintWords Go.Proofs.YtkbomfpebhjaoaaDoorW.PrintLast
set_option linter.unusedVariables false
structure Tabs (w : World) : Prop where
  max : ∃ m, w.cell? ⟨0, 0, none⟩ = some (.int .i64 m)
theorem Tabs.below {w w' : World} (h : Tabs w) (b : Below w.heap.size w w') : Tabs w' := ⟨h.max.imp fun _ e => pw_cell_below b e⟩
theorem tnow {w w' : World} (h : Tabs w) (b : Below w.heap.size w w' := by repeat (first | exact Below.refl _ _ | exact Aside0.out (by assumption) | apply below_alloc | apply pw_below_drewN | apply below_drew1 | refine below_set ?_ (Aside0.out (by assumption)))) : Tabs w' := h.below b
end Go.Proofs.YtkbomfpebhjaoaaDoor.QFnSplit
