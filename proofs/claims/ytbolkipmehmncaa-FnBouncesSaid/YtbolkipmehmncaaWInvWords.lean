-- Out of the words that print.sh lays for this seat; what nothing here uses is left out (wip/tools/prune.py).
import Derived.Test.YtbolkipmehmncaaWInv
import Derived.Test.YtbolkipmehmncaaWFootNe
namespace Go.Proofs.YtbolkipmehmncaaW.PrintWords
open Go.RowKit
end Go.Proofs.YtbolkipmehmncaaW.PrintWords
namespace Go.Proofs.YtbolkipmehmncaaW.PrintLast
section
variable {ops : Array Oper} {a : Act} {o og : Oper} {g : Nat} {t : Tmp} {u : Bool}
end
end Go.Proofs.YtbolkipmehmncaaW.PrintLast
