/- A text of this session's own program (wip/myprint.py): functions that the law FnExactRemoveBox reaches, as plain Lean functions, each with the proof that the call does just that. No condition beyond those that each statement bears. -/
import Derived.Test.YthjbkkjiggdcpaaProg
import Derived.Below
import Derived.Deep.Draws
import Derived.Deep.AppendLies
import Derived.Maps.AppendAt
import Derived.OwnWalk
import Derived.Laws.BytesArg
import Derived.Laws.MakeOwn
import Derived.Laws.OwnMore
import Derived.Deep.OwnRows
import Derived.Tactics
import Derived.Lib.ConvBytes
import Derived.Laws.Slices
import Derived.WalkKit
import Derived.KernelRfl
import Derived.RowKit3
import Derived.Deep.LoopGhost
import Derived.Deep.QuietTactic
import Derived.BigQuiet
import Derived.WideLaws
import Derived.Deep.DeepCutAuto
import Derived.Deep.CutBlock
import Derived.Deep.RegionHeld3
import Derived.Laws.Rows
import Derived.Lib.AppendStr
import Derived.ArgAppend
import Derived.Laws.IdiomCopy
import Derived.OrdersHeld
import Derived.Laws.BitsLemmas
import Derived.RowKit
import Derived.Lib.SliceRun
import Derived.Test.YthjbkkjiggdcpaaShort
import Derived.Test.YthjbkkjiggdcpaaWWords
import Derived.Test.YthjbkkjiggdcpaaWLast
import Derived.Test.YthjbkkjiggdcpaaWTab
import Derived.Test.YthjbkkjiggdcpaaWFour
import Derived.Test.YthjbkkjiggdcpaaWQPut
import Derived.Test.YthjbkkjiggdcpaaWApart
import Derived.Test.YthjbkkjiggdcpaaWArr
import Derived.Test.YthjbkkjiggdcpaaWZeros
import Derived.Test.YthjbkkjiggdcpaaWFoot
import Derived.Test.YthjbkkjiggdcpaaWKept
import Derived.Test.YthjbkkjiggdcpaaWShare
import Derived.Test.YthjbkkjiggdcpaaWN
import Derived.Test.YthjbkkjiggdcpaaWFootNe
import Derived.Test.YthjbkkjiggdcpaaWAt
import Derived.Test.YthjbkkjiggdcpaaWEqStruct
import Derived.Test.YthjbkkjiggdcpaaWRepsOne
import Derived.Test.YthjbkkjiggdcpaaWInv
import Derived.Test.YthjbkkjiggdcpaaWInvWords
import Derived.Test.YthjbkkjiggdcpaaWGuard
import Derived.Test.YthjbkkjiggdcpaaWNEv
import Derived.Test.YthjbkkjiggdcpaaWMore
namespace Go.Proofs.Ythjbkkjiggdcpaa.QFnExactRemoveBox
open Go.Proofs.Ythjbkkjiggdcpaa.Short Go.RowKit Go.Proofs.YthjbkkjiggdcpaaW.PrintWords Go.Proofs.YthjbkkjiggdcpaaW.PrintLast Go.Proofs.YthjbkkjiggdcpaaW.PrintMore
attribute [local go_sem] max2_int min2_int max_two min_two max_three min_three max_four min_four   -- for this text's walks alone
set_option linter.unusedVariables false
set_option linter.unusedSimpArgs false



def errW : Option Int → Value
  | none => .nilIface
  | some c => .iface 0 (.int .i64 c)
theorem errW_none : errW none = .nilIface := rfl
theorem errW_some (c : Int) : errW (some c) = .iface 0 (.int .i64 c) := rfl

theorem info3 : (Try.prog.info? 3).map (fun i => (i.zero, i.size, i.bytes)) = some (some (.int .i64 0), 1, 8) := by kernel_rfl
-- the values' own types

end Go.Proofs.Ythjbkkjiggdcpaa.QFnExactRemoveBox
