-- Out of the words that print.sh lays for this seat; what nothing here uses is left out (wip/tools/prune.py).
import Derived.Test.YtnoopmbhdlfkbaaDoorWInv
import Derived.Test.YtnoopmbhdlfkbaaDoorWFootNe
namespace Go.Proofs.YtnoopmbhdlfkbaaDoorW.PrintWords
open Go.RowKit
end Go.Proofs.YtnoopmbhdlfkbaaDoorW.PrintWords
namespace Go.Proofs.YtnoopmbhdlfkbaaDoorW.PrintLast
section
variable {ops : Array Oper} {a : Act} {o og : Oper} {g : Nat} {t : Tmp} {u : Bool}
end
end Go.Proofs.YtnoopmbhdlfkbaaDoorW.PrintLast
