/- What is to be proved of the law FnExactGroupLine: over numbers and lists alone. -/
import Derived.Test.YtmhjcbcjpidegaaS9
namespace Go.Proofs.Ytmhjcbcjpidegaa.S
open Go.RowKit Go.Proofs.YtmhjcbcjpidegaaW.PrintWords Go.Proofs.YtmhjcbcjpidegaaW.PrintLast
def laws_FnExactGroupLine.Pure : Prop := ∀ (l0_0 : List Int) (l0_1 : List Int), l0_0.length ≤ 9223372036854775807 → (∀ x ∈ l0_0, (Lit.int .i64 x).wf = true) → l0_1.length ≤ 9223372036854775807 → (∀ x ∈ l0_1, (Lit.int .i64 x).wf = true) → ∃ k, laws_FnExactGroupLine.f k l0_0 l0_1 = some true
end Go.Proofs.Ytmhjcbcjpidegaa.S
