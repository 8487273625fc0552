-- Out of the words that print.sh lays for this seat; what nothing here uses is left out (wip/tools/prune.py).
import Derived.Test.YtpieaniigkgmoaaGreatDoorWInv
import Derived.Test.YtpieaniigkgmoaaGreatDoorWFootNe
namespace Go.Proofs.YtpieaniigkgmoaaGreatDoorW.PrintWords
open Go.RowKit
end Go.Proofs.YtpieaniigkgmoaaGreatDoorW.PrintWords
namespace Go.Proofs.YtpieaniigkgmoaaGreatDoorW.PrintLast
section
variable {ops : Array Oper} {a : Act} {o og : Oper} {g : Nat} {t : Tmp} {u : Bool}
end
end Go.Proofs.YtpieaniigkgmoaaGreatDoorW.PrintLast
