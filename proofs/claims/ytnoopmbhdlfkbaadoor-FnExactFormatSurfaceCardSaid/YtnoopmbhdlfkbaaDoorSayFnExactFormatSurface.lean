/- What is to be proved of the law FnExactFormatSurface: over numbers and lists alone. -/
import Derived.Test.YtnoopmbhdlfkbaaDoorS25
namespace Go.Proofs.YtnoopmbhdlfkbaaDoor.S
open Go.RowKit Go.Proofs.YtnoopmbhdlfkbaaDoorW.PrintWords Go.Proofs.YtnoopmbhdlfkbaaDoorW.PrintLast
def laws_FnExactFormatSurface.Pure : Prop := ∀ (l0_0 : List Int) (l0_1 : List Int), l0_0.length ≤ 9223372036854775807 → (∀ x ∈ l0_0, (Lit.int .i64 x).wf = true) → l0_1.length ≤ 9223372036854775807 → (∀ x ∈ l0_1, (Lit.int .i64 x).wf = true) → ∃ k, laws_FnExactFormatSurface.f k l0_0 l0_1 = some true
end Go.Proofs.YtnoopmbhdlfkbaaDoor.S
