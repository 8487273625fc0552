/- What is to be proved of the law FnExchanges: over numbers and lists alone. -/
import Derived.Test.YtbolkipmehmncaaDoorS5
namespace Go.Proofs.YtbolkipmehmncaaDoor.S
open Go.RowKit Go.Proofs.YtbolkipmehmncaaDoorW.PrintWords Go.Proofs.YtbolkipmehmncaaDoorW.PrintLast
def laws_FnExchanges.Pure : Prop := ∀ (l0 : List Int), l0.length ≤ 9223372036854775807 → (∀ x ∈ l0, (Lit.int .u8 x).wf = true) → ∃ k, laws_FnExchanges.f k l0 = some true
end Go.Proofs.YtbolkipmehmncaaDoor.S
