-- Out of the words that print.sh lays for this seat; what nothing here uses is left out (wip/tools/prune.py).
import Derived.Test.YtfomhkfgdggngaaDoorWInv
import Derived.Test.YtfomhkfgdggngaaDoorWFootNe
namespace Go.Proofs.YtfomhkfgdggngaaDoorW.PrintWords
open Go.RowKit
end Go.Proofs.YtfomhkfgdggngaaDoorW.PrintWords
namespace Go.Proofs.YtfomhkfgdggngaaDoorW.PrintLast
section
variable {ops : Array Oper} {a : Act} {o og : Oper} {g : Nat} {t : Tmp} {u : Bool}
end
end Go.Proofs.YtfomhkfgdggngaaDoorW.PrintLast
