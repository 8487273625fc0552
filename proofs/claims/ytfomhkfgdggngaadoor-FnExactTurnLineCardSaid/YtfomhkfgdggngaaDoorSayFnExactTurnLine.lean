/- What is to be proved of the law FnExactTurnLine: over numbers and lists alone. -/
import Derived.Test.YtfomhkfgdggngaaDoorS8
namespace Go.Proofs.YtfomhkfgdggngaaDoor.S
open Go.RowKit Go.Proofs.YtfomhkfgdggngaaDoorW.PrintWords Go.Proofs.YtfomhkfgdggngaaDoorW.PrintLast
def laws_FnExactTurnLine.Pure : Prop := ∀ (l0_0 : List Int) (l0_1 : List Int), l0_0.length ≤ 9223372036854775807 → (∀ x ∈ l0_0, (Lit.int .i64 x).wf = true) → l0_1.length ≤ 9223372036854775807 → (∀ x ∈ l0_1, (Lit.int .i64 x).wf = true) → ∃ k, laws_FnExactTurnLine.f k l0_0 l0_1 = some true
end Go.Proofs.YtfomhkfgdggngaaDoor.S
