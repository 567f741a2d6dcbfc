/- A text of this session's own program (wip/myprint.py): functions that the law FnNumbers reaches, as plain Lean functions, each with the proof that the call does just that. No condition beyond those that each statement bears. -/
import Derived.Test.YtkbomfpebhjaoaaDoorProg
import Derived.Below
import Derived.Deep.Draws
import Derived.Deep.AppendLies
import Derived.Maps.AppendAt
import Derived.OwnWalk
import Derived.Laws.BytesArg
import Derived.Laws.MakeOwn
import Derived.Laws.OwnMore
import Derived.Deep.OwnRows
import Derived.Tactics
import Derived.Lib.ConvBytes
import Derived.Laws.Slices
import Derived.WalkKit
import Derived.KernelRfl
import Derived.RowKit3
import Derived.Deep.LoopGhost
import Derived.Deep.QuietTactic
import Derived.BigQuiet
import Derived.WideLaws
import Derived.Deep.DeepCutAuto
import Derived.Deep.CutBlock
import Derived.Deep.RegionHeld3
import Derived.Laws.Rows
import Derived.Lib.AppendStr
import Derived.ArgAppend
import Derived.Laws.IdiomCopy
import Derived.OrdersHeld
import Derived.Laws.BitsLemmas
import Derived.RowKit
import Derived.Lib.SliceRun
import Derived.Test.YtkbomfpebhjaoaaDoorShort
import Derived.Test.YtkbomfpebhjaoaaDoorTabsFnNumbers
import Derived.Test.YtkbomfpebhjaoaaDoorWWords
import Derived.Test.YtkbomfpebhjaoaaDoorWLast
import Derived.Test.YtkbomfpebhjaoaaDoorWTab
import Derived.Test.YtkbomfpebhjaoaaDoorWFour
import Derived.Test.YtkbomfpebhjaoaaDoorWQPut
import Derived.Test.YtkbomfpebhjaoaaDoorWApart
import Derived.Test.YtkbomfpebhjaoaaDoorWArr
import Derived.Test.YtkbomfpebhjaoaaDoorWZeros
import Derived.Test.YtkbomfpebhjaoaaDoorWFoot
import Derived.Test.YtkbomfpebhjaoaaDoorWKept
import Derived.Test.YtkbomfpebhjaoaaDoorWShare
import Derived.Test.YtkbomfpebhjaoaaDoorWN
import Derived.Test.YtkbomfpebhjaoaaDoorWFootNe
import Derived.Test.YtkbomfpebhjaoaaDoorWAt
import Derived.Test.YtkbomfpebhjaoaaDoorWEqStruct
import Derived.Test.YtkbomfpebhjaoaaDoorWRepsOne
import Derived.Test.YtkbomfpebhjaoaaDoorWInv
import Derived.Test.YtkbomfpebhjaoaaDoorWInvWords
import Derived.Test.YtkbomfpebhjaoaaDoorWGuard
import Derived.Test.YtkbomfpebhjaoaaDoorWNEv
import Derived.Test.YtkbomfpebhjaoaaDoorWMore
namespace Go.Proofs.YtkbomfpebhjaoaaDoor.QFnNumbers
open Go.Proofs.YtkbomfpebhjaoaaDoor.Short Go.RowKit Go.Proofs.YtkbomfpebhjaoaaDoorW.PrintWords Go.Proofs.YtkbomfpebhjaoaaDoorW.PrintLast Go.Proofs.YtkbomfpebhjaoaaDoorW.PrintMore
attribute [local go_sem] max2_int min2_int max_two min_two max_three min_three max_four min_four   -- for this text's walks alone
set_option linter.unusedVariables false
set_option linter.unusedSimpArgs false



def errW : Option Int → Value
  | none => .nilIface
  | some c => .iface 0 (.int .i64 c)
theorem errW_none : errW none = .nilIface := rfl
theorem errW_some (c : Int) : errW (some c) = .iface 0 (.int .i64 c) := rfl

theorem info3 : (Tryd.prog.info? 3).map (fun i => (i.zero, i.size, i.bytes)) = some (some (.int .i64 0), 1, 8) := by kernel_rfl
theorem info5 : (Tryd.prog.info? 5).map (fun i => (i.zero, i.size, i.bytes)) = some (some (.int .u8 0), 1, 1) := by kernel_rfl
theorem info9 : (Tryd.prog.info? 9).map (fun i => (i.zero, i.size, i.bytes)) = some (some (.string ⟨#[]⟩), 1, 16) := by kernel_rfl
-- the values' own types

end Go.Proofs.YtkbomfpebhjaoaaDoor.QFnNumbers
