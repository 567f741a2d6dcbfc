-- Out of the words that print.sh wrote: those that this claim names (prune.py of this session left the others out).
import Derived.Test.YtcnpdiiecopccaaGreatDoorWTab
/-! ### 56. Four, five, six operations that may come up next, in any order -/
namespace Go.Proofs.YtcnpdiiecopccaaGreatDoorW.PrintLast
section
variable {P : Program} {ops : Array Oper} {Q : Exit → Act → World → Prop} {md : Region.Mode} {S : World → Prop} {ds : List Nat} {T : Bool × List (List Nat × List Nat)}
end
end Go.Proofs.YtcnpdiiecopccaaGreatDoorW.PrintLast
