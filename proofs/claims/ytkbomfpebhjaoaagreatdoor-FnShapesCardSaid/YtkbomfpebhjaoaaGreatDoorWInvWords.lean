-- Out of the words that print.sh wrote: those that this claim names (prune.py of this session left the others out).
import Derived.Test.YtkbomfpebhjaoaaGreatDoorWInv
import Derived.Test.YtkbomfpebhjaoaaGreatDoorWFootNe
namespace Go.Proofs.YtkbomfpebhjaoaaGreatDoorW.PrintWords
open Go.RowKit
end Go.Proofs.YtkbomfpebhjaoaaGreatDoorW.PrintWords
namespace Go.Proofs.YtkbomfpebhjaoaaGreatDoorW.PrintLast
section
variable {ops : Array Oper} {a : Act} {o og : Oper} {g : Nat} {t : Tmp} {u : Bool}
end
end Go.Proofs.YtkbomfpebhjaoaaGreatDoorW.PrintLast
