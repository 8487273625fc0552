-- Out of the words that print.sh lays for this seat; what nothing here uses is left out (wip/tools/prune.py).
import Derived.Test.YtfomhkfgdggngaaWInv
import Derived.Test.YtfomhkfgdggngaaWFootNe
namespace Go.Proofs.YtfomhkfgdggngaaW.PrintWords
open Go.RowKit
end Go.Proofs.YtfomhkfgdggngaaW.PrintWords
namespace Go.Proofs.YtfomhkfgdggngaaW.PrintLast
section
variable {ops : Array Oper} {a : Act} {o og : Oper} {g : Nat} {t : Tmp} {u : Bool}
end
end Go.Proofs.YtfomhkfgdggngaaW.PrintLast
