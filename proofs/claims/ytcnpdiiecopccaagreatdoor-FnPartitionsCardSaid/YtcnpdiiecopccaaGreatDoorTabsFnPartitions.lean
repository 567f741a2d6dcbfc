/- This session's own text: what the listed variables hold, as the walks of the law FnPartitions ask it, and that it stays so below. No condition. -/
import Derived.Test.YtcnpdiiecopccaaGreatDoorShelf
import Derived.Test.YtcnpdiiecopccaaGreatDoorWMore
import Derived.Test.YtcnpdiiecopccaaGreatDoorWKept
import Derived.Lib.SmallJoins
import Derived.Lib.AppendIntMem
import Derived.Lib.SplitLaws
namespace Go.Proofs.YtcnpdiiecopccaaGreatDoor.QFnPartitions
open Go.RowKit Go.Proofs.YtcnpdiiecopccaaGreatDoorW.PrintWords Go.Proofs.YtcnpdiiecopccaaGreatDoorW.PrintLast
set_option linter.unusedVariables false
structure Tabs (w : World) : Prop where
  pow : Lib.TabIs Tryz.prog w "internal/strconv.uint64pow10" .u64 Lib.pow10Tab
  max : ∃ m, w.cell? ⟨0, 0, none⟩ = some (.int .i64 m)
  err : (∃ tp p, w.var? Tryz.prog "strconv.ErrSyntax" = some #[.iface tp p]) ∧ (∃ tp p, w.var? Tryz.prog "strconv.ErrRange" = some #[.iface tp p])
theorem Tabs.below {w w' : World} (h : Tabs w) (b : Below w.heap.size w w') : Tabs w' := ⟨Go.Joins.var_stays (g := 5) (by kernel_rfl) h.pow b (Nat.le_refl _), h.max.imp fun _ e => pw_cell_below b e, ⟨h.err.1.imp fun _ e => e.imp fun _ e => Go.Joins.var_stays (g := 3) (by kernel_rfl) e b (Nat.le_refl _), h.err.2.imp fun _ e => e.imp fun _ e => Go.Joins.var_stays (g := 4) (by kernel_rfl) e b (Nat.le_refl _)⟩⟩
theorem tnow {w w' : World} (h : Tabs w) (b : Below w.heap.size w w' := by repeat (first | exact Below.refl _ _ | exact Aside0.out (by assumption) | apply below_alloc | apply pw_below_drewN | apply below_drew1 | refine below_set ?_ (Aside0.out (by assumption)))) : Tabs w' := h.below b
end Go.Proofs.YtcnpdiiecopccaaGreatDoor.QFnPartitions
