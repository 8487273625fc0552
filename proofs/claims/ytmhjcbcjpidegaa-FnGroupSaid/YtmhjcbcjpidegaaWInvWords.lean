-- Out of the words that print.sh lays for this seat; what nothing here uses is left out (wip/tools/prune.py).
import Derived.Test.YtmhjcbcjpidegaaWInv
import Derived.Test.YtmhjcbcjpidegaaWFootNe
namespace Go.Proofs.YtmhjcbcjpidegaaW.PrintWords
open Go.RowKit
end Go.Proofs.YtmhjcbcjpidegaaW.PrintWords
namespace Go.Proofs.YtmhjcbcjpidegaaW.PrintLast
section
variable {ops : Array Oper} {a : Act} {o og : Oper} {g : Nat} {t : Tmp} {u : Bool}
end
end Go.Proofs.YtmhjcbcjpidegaaW.PrintLast
