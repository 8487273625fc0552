-- Out of the words that print.sh lays for this seat; what nothing here uses is left out (wip/tools/prune.py).
import Derived.Test.YtnoopmbhdlfkbaaWInv
import Derived.Test.YtnoopmbhdlfkbaaWFootNe
namespace Go.Proofs.YtnoopmbhdlfkbaaW.PrintWords
open Go.RowKit
end Go.Proofs.YtnoopmbhdlfkbaaW.PrintWords
namespace Go.Proofs.YtnoopmbhdlfkbaaW.PrintLast
section
variable {ops : Array Oper} {a : Act} {o og : Oper} {g : Nat} {t : Tmp} {u : Bool}
end
end Go.Proofs.YtnoopmbhdlfkbaaW.PrintLast
