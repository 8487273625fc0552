-- Out of the words that print.sh lays for this seat; what nothing here uses is left out (wip/tools/prune.py).
import Derived.Test.YthhdgeafdnikcaaGreatDoorWInv
import Derived.Test.YthhdgeafdnikcaaGreatDoorWFootNe
namespace Go.Proofs.YthhdgeafdnikcaaGreatDoorW.PrintWords
open Go.RowKit
end Go.Proofs.YthhdgeafdnikcaaGreatDoorW.PrintWords
namespace Go.Proofs.YthhdgeafdnikcaaGreatDoorW.PrintLast
section
variable {ops : Array Oper} {a : Act} {o og : Oper} {g : Nat} {t : Tmp} {u : Bool}
end
end Go.Proofs.YthhdgeafdnikcaaGreatDoorW.PrintLast
