-- Out of the words that print.sh lays for this seat; what nothing here uses is left out (wip/tools/prune.py).
import Derived.Test.YtfomhkfgdggngaaGreatDoorWInv
import Derived.Test.YtfomhkfgdggngaaGreatDoorWFootNe
namespace Go.Proofs.YtfomhkfgdggngaaGreatDoorW.PrintWords
open Go.RowKit
end Go.Proofs.YtfomhkfgdggngaaGreatDoorW.PrintWords
namespace Go.Proofs.YtfomhkfgdggngaaGreatDoorW.PrintLast
section
variable {ops : Array Oper} {a : Act} {o og : Oper} {g : Nat} {t : Tmp} {u : Bool}
end
end Go.Proofs.YtfomhkfgdggngaaGreatDoorW.PrintLast
