/- A text of this session's own program (wip/myprint.py): functions that the law FnExactParseNumber reaches, as plain Lean functions, each with the proof that the call does just that. No condition beyond those that each statement bears. -/
import Derived.Test.YtcegeleoicjciaaDoorProg
import Derived.Below
import Derived.Deep.Draws
import Derived.Deep.AppendLies
import Derived.Maps.AppendAt
import Derived.OwnWalk
import Derived.Laws.BytesArg
import Derived.Laws.MakeOwn
import Derived.Laws.OwnMore
import Derived.Deep.OwnRows
import Derived.Tactics
import Derived.Lib.ConvBytes
import Derived.Laws.Slices
import Derived.WalkKit
import Derived.KernelRfl
import Derived.RowKit3
import Derived.Deep.LoopGhost
import Derived.Deep.QuietTactic
import Derived.BigQuiet
import Derived.WideLaws
import Derived.Deep.DeepCutAuto
import Derived.Deep.CutBlock
import Derived.Deep.RegionHeld3
import Derived.Laws.Rows
import Derived.Lib.AppendStr
import Derived.ArgAppend
import Derived.Laws.IdiomCopy
import Derived.OrdersHeld
import Derived.Laws.BitsLemmas
import Derived.RowKit
import Derived.Lib.SliceRun
import Derived.Test.YtcegeleoicjciaaDoorShort
import Derived.Test.YtcegeleoicjciaaDoorTabsFnExactParseNumber
import Derived.Test.YtcegeleoicjciaaDoorWWords
import Derived.Test.YtcegeleoicjciaaDoorWLast
import Derived.Test.YtcegeleoicjciaaDoorWTab
import Derived.Test.YtcegeleoicjciaaDoorWFour
import Derived.Test.YtcegeleoicjciaaDoorWQPut
import Derived.Test.YtcegeleoicjciaaDoorWApart
import Derived.Test.YtcegeleoicjciaaDoorWArr
import Derived.Test.YtcegeleoicjciaaDoorWZeros
import Derived.Test.YtcegeleoicjciaaDoorWFoot
import Derived.Test.YtcegeleoicjciaaDoorWKept
import Derived.Test.YtcegeleoicjciaaDoorWShare
import Derived.Test.YtcegeleoicjciaaDoorWN
import Derived.Test.YtcegeleoicjciaaDoorWFootNe
import Derived.Test.YtcegeleoicjciaaDoorWAt
import Derived.Test.YtcegeleoicjciaaDoorWEqStruct
import Derived.Test.YtcegeleoicjciaaDoorWRepsOne
import Derived.Test.YtcegeleoicjciaaDoorWInv
import Derived.Test.YtcegeleoicjciaaDoorWInvWords
import Derived.Test.YtcegeleoicjciaaDoorWGuard
import Derived.Test.YtcegeleoicjciaaDoorWNEv
import Derived.Test.YtcegeleoicjciaaDoorWMore
namespace Go.Proofs.YtcegeleoicjciaaDoor.QFnExactParseNumber
open Go.Proofs.YtcegeleoicjciaaDoor.Short Go.RowKit Go.Proofs.YtcegeleoicjciaaDoorW.PrintWords Go.Proofs.YtcegeleoicjciaaDoorW.PrintLast Go.Proofs.YtcegeleoicjciaaDoorW.PrintMore
attribute [local go_sem] max2_int min2_int max_two min_two max_three min_three max_four min_four   -- for this text's walks alone
set_option linter.unusedVariables false
set_option linter.unusedSimpArgs false



def errW : Option Int → Value
  | none => .nilIface
  | some c => .iface 0 (.int .i64 c)
theorem errW_none : errW none = .nilIface := rfl
theorem errW_some (c : Int) : errW (some c) = .iface 0 (.int .i64 c) := rfl

theorem info5 : (Tryd.prog.info? 5).map (fun i => (i.zero, i.size, i.bytes)) = some (some (.int .u8 0), 1, 1) := by kernel_rfl
-- the values' own types

end Go.Proofs.YtcegeleoicjciaaDoor.QFnExactParseNumber
