/- What is to be proved of the law FnExactParseSurface: over numbers and lists alone. -/
import Derived.Test.YtbolkipmehmncaaDoorS10
namespace Go.Proofs.YtbolkipmehmncaaDoor.S
open Go.RowKit Go.Proofs.YtbolkipmehmncaaDoorW.PrintWords Go.Proofs.YtbolkipmehmncaaDoorW.PrintLast
def laws_FnExactParseSurface.Pure : Prop := ∀ (a0 : ByteArray), a0.size ≤ 140737488351232 → ∃ k, laws_FnExactParseSurface.f k a0 = some true
end Go.Proofs.YtbolkipmehmncaaDoor.S
