/- What is to be proved of the law FnBalls: over numbers and lists alone. -/
import Derived.Test.YtnoopmbhdlfkbaaS4
namespace Go.Proofs.Ytnoopmbhdlfkbaa.S
open Go.RowKit Go.Proofs.YtnoopmbhdlfkbaaW.PrintWords Go.Proofs.YtnoopmbhdlfkbaaW.PrintLast
def laws_FnBalls.Pure : Prop := ∀ (l0 : List Int), l0.length ≤ 9223372036854775807 → (∀ x ∈ l0, (Lit.int .u8 x).wf = true) → ∃ k, laws_FnBalls.f k l0 = some true
end Go.Proofs.Ytnoopmbhdlfkbaa.S
