-- Out of the words that print.sh wrote: those that this claim names (prune.py of this session left the others out).
import Derived.Test.YtcnpdiiecopccaaGreatDoorWWords
import Derived.Laws.StructEq
/-! ### 53. '==' of structs as_ one Bool -/
namespace Go.Proofs.YtcnpdiiecopccaaGreatDoorW.PrintWords
open Go.RowKit
section
variable {P : Program} {d : Nat} {xs ys : Array Value} {f : Field} {fs : List Field} {a b : Value} {r s : Bool} {w : World}
end
end Go.Proofs.YtcnpdiiecopccaaGreatDoorW.PrintWords
