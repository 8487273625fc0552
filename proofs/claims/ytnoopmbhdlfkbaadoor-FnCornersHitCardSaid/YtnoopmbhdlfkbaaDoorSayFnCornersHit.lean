/- What is to be proved of the law FnCornersHit: over numbers and lists alone. -/
import Derived.Test.YtnoopmbhdlfkbaaDoorS5
namespace Go.Proofs.YtnoopmbhdlfkbaaDoor.S
open Go.RowKit Go.Proofs.YtnoopmbhdlfkbaaDoorW.PrintWords Go.Proofs.YtnoopmbhdlfkbaaDoorW.PrintLast
def laws_FnCornersHit.Pure : Prop := ∀ (l0 : List Int), l0.length ≤ 9223372036854775807 → (∀ x ∈ l0, (Lit.int .u8 x).wf = true) → ∃ k, laws_FnCornersHit.f k l0 = some true
end Go.Proofs.YtnoopmbhdlfkbaaDoor.S
