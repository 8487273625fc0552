-- Out of the words that print.sh lays for this seat; what nothing here uses is left out (wip/tools/prune.py).
import Derived.Test.YtbolkipmehmncaaDoorWInv
import Derived.Test.YtbolkipmehmncaaDoorWFootNe
namespace Go.Proofs.YtbolkipmehmncaaDoorW.PrintWords
open Go.RowKit
end Go.Proofs.YtbolkipmehmncaaDoorW.PrintWords
namespace Go.Proofs.YtbolkipmehmncaaDoorW.PrintLast
section
variable {ops : Array Oper} {a : Act} {o og : Oper} {g : Nat} {t : Tmp} {u : Bool}
end
end Go.Proofs.YtbolkipmehmncaaDoorW.PrintLast
