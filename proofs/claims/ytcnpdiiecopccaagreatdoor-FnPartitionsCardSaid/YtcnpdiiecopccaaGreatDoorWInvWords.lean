-- Out of the words that print.sh wrote: those that this claim names (prune.py of this session left the others out).
import Derived.Test.YtcnpdiiecopccaaGreatDoorWInv
import Derived.Test.YtcnpdiiecopccaaGreatDoorWFootNe
namespace Go.Proofs.YtcnpdiiecopccaaGreatDoorW.PrintWords
open Go.RowKit
end Go.Proofs.YtcnpdiiecopccaaGreatDoorW.PrintWords
namespace Go.Proofs.YtcnpdiiecopccaaGreatDoorW.PrintLast
section
variable {ops : Array Oper} {a : Act} {o og : Oper} {g : Nat} {t : Tmp} {u : Bool}
end
end Go.Proofs.YtcnpdiiecopccaaGreatDoorW.PrintLast
