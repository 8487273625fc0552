/- What is to be proved of the law FnExactParseTable: over numbers and lists alone. -/
import Derived.Test.YtbolkipmehmncaaDoorS7
namespace Go.Proofs.YtbolkipmehmncaaDoor.S
open Go.RowKit Go.Proofs.YtbolkipmehmncaaDoorW.PrintWords Go.Proofs.YtbolkipmehmncaaDoorW.PrintLast
def laws_FnExactParseTable.Pure : Prop := ∀ (a0 : ByteArray), a0.size ≤ 140737488351232 → ∃ k, laws_FnExactParseTable.f k a0 = some true
end Go.Proofs.YtbolkipmehmncaaDoor.S
