-- Out of the words that print.sh lays for this seat; what nothing here uses is left out (wip/tools/prune.py).
import Derived.Test.YthhdgeafdnikcaaDoorWInv
import Derived.Test.YthhdgeafdnikcaaDoorWFootNe
namespace Go.Proofs.YthhdgeafdnikcaaDoorW.PrintWords
open Go.RowKit
end Go.Proofs.YthhdgeafdnikcaaDoorW.PrintWords
namespace Go.Proofs.YthhdgeafdnikcaaDoorW.PrintLast
section
variable {ops : Array Oper} {a : Act} {o og : Oper} {g : Nat} {t : Tmp} {u : Bool}
end
end Go.Proofs.YthhdgeafdnikcaaDoorW.PrintLast
