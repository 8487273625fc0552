-- Out of the words that print.sh lays for this seat; what nothing here uses is left out (wip/tools/prune.py).
import Derived.Test.YtlbhjemkjkdndaaWInv
import Derived.Test.YtlbhjemkjkdndaaWFootNe
namespace Go.Proofs.YtlbhjemkjkdndaaW.PrintWords
open Go.RowKit
end Go.Proofs.YtlbhjemkjkdndaaW.PrintWords
namespace Go.Proofs.YtlbhjemkjkdndaaW.PrintLast
section
variable {ops : Array Oper} {a : Act} {o og : Oper} {g : Nat} {t : Tmp} {u : Bool}
end
end Go.Proofs.YtlbhjemkjkdndaaW.PrintLast
