-- Out of the words that print.sh lays for this seat; what nothing here uses is left out (wip/tools/prune.py).
import Derived.Test.YtmhjcbcjpidegaaWWords
import Derived.Laws.StructEq
namespace Go.Proofs.YtmhjcbcjpidegaaW.PrintWords
open Go.RowKit
section
variable {P : Program} {d : Nat} {xs ys : Array Value} {f : Field} {fs : List Field} {a b : Value} {r s : Bool} {w : World}
end
end Go.Proofs.YtmhjcbcjpidegaaW.PrintWords
