-- PRINTED BY print.sh 35421559b90ae4d0a3588c463048766b98c2df88dd9212a6774a882060cdf62d: not written by this session
import Derived.Test.YtcegeleoicjciaaProg
import Derived.Below
import Derived.Deep.Draws
import Derived.Deep.AppendLies
import Derived.Maps.AppendAt
import Derived.OwnWalk
import Derived.Laws.BytesArg
import Derived.Laws.MakeOwn
import Derived.Laws.OwnMore
import Derived.Deep.OwnRows
import Derived.Tactics
import Derived.Lib.ConvBytes
import Derived.Laws.Slices
import Derived.WalkKit
import Derived.KernelRfl
import Derived.RowKit3
import Derived.Deep.LoopGhost
import Derived.Deep.QuietTactic
import Derived.BigQuiet
import Derived.WideLaws
import Derived.Deep.DeepCutAuto
import Derived.Deep.CutBlock
import Derived.Deep.RegionHeld3
import Derived.Laws.Rows
import Derived.Lib.AppendStr
import Derived.ArgAppend
import Derived.Laws.IdiomCopy
import Derived.OrdersHeld
import Derived.Laws.BitsLemmas
import Derived.RowKit
import Derived.Test.YtcegeleoicjciaaWWords
import Derived.Test.YtcegeleoicjciaaWLast
import Derived.Test.YtcegeleoicjciaaWTab
import Derived.Test.YtcegeleoicjciaaWFour
import Derived.Test.YtcegeleoicjciaaWQPut
import Derived.Test.YtcegeleoicjciaaWApart
import Derived.Test.YtcegeleoicjciaaWArr
import Derived.Test.YtcegeleoicjciaaWZeros
import Derived.Test.YtcegeleoicjciaaWFoot
import Derived.Test.YtcegeleoicjciaaWKept
import Derived.Test.YtcegeleoicjciaaWShare
import Derived.Test.YtcegeleoicjciaaWN
import Derived.Test.YtcegeleoicjciaaWFootNe
import Derived.Test.YtcegeleoicjciaaWAt
import Derived.Test.YtcegeleoicjciaaWEqStruct
import Derived.Test.YtcegeleoicjciaaWRepsOne
import Derived.Test.YtcegeleoicjciaaWInv
import Derived.Test.YtcegeleoicjciaaWInvWords
import Derived.Test.YtcegeleoicjciaaWGuard
import Derived.Test.YtcegeleoicjciaaWNEv
import Derived.Test.YtcegeleoicjciaaWMore
namespace Go.Proofs.Ytcegeleoicjciaa.PFnExactConstants
open Go.RowKit Go.Proofs.YtcegeleoicjciaaW.PrintWords Go.Proofs.YtcegeleoicjciaaW.PrintLast Go.Proofs.YtcegeleoicjciaaW.PrintMore
attribute [local go_sem] max2_int min2_int max_two min_two max_three min_three max_four min_four   -- for this text's walks alone
set_option linter.unusedVariables false
set_option linter.unusedSimpArgs false



def errW : Option Int → Value
  | none => .nilIface
  | some c => .iface 0 (.int .i64 c)
theorem errW_none : errW none = .nilIface := rfl
theorem errW_some (c : Int) : errW (some c) = .iface 0 (.int .i64 c) := rfl

-- the values' own types

end Go.Proofs.Ytcegeleoicjciaa.PFnExactConstants
