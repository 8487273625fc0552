-- Out of the words that print.sh lays for this seat; what nothing here uses is left out (wip/tools/prune.py).
import Derived.Test.YtjokajioaoiceaaWInv
import Derived.Test.YtjokajioaoiceaaWFootNe
namespace Go.Proofs.YtjokajioaoiceaaW.PrintWords
open Go.RowKit
end Go.Proofs.YtjokajioaoiceaaW.PrintWords
namespace Go.Proofs.YtjokajioaoiceaaW.PrintLast
section
variable {ops : Array Oper} {a : Act} {o og : Oper} {g : Nat} {t : Tmp} {u : Bool}
end
end Go.Proofs.YtjokajioaoiceaaW.PrintLast
