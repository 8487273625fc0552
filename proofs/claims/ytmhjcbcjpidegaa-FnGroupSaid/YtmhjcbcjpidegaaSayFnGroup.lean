/- What is to be proved of the law FnGroup: over numbers and lists alone. -/
import Derived.Test.YtmhjcbcjpidegaaS8
namespace Go.Proofs.Ytmhjcbcjpidegaa.S
open Go.RowKit Go.Proofs.YtmhjcbcjpidegaaW.PrintWords Go.Proofs.YtmhjcbcjpidegaaW.PrintLast
def laws_FnGroup.Pure : Prop := ∀ (l0 : List Int), l0.length ≤ 9223372036854775807 → (∀ x ∈ l0, (Lit.int .u8 x).wf = true) → ∃ k, laws_FnGroup.f k l0 = some true
end Go.Proofs.Ytmhjcbcjpidegaa.S
