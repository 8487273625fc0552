/- What is to be proved of the law FnBounces: over numbers and lists alone. -/
import Derived.Test.YtbolkipmehmncaaS7
namespace Go.Proofs.Ytbolkipmehmncaa.S
open Go.RowKit Go.Proofs.YtbolkipmehmncaaW.PrintWords Go.Proofs.YtbolkipmehmncaaW.PrintLast
def laws_FnBounces.Pure : Prop := ∀ (l0 : List Int), l0.length ≤ 9223372036854775807 → (∀ x ∈ l0, (Lit.int .u8 x).wf = true) → ∃ k, laws_FnBounces.f k l0 = some true
end Go.Proofs.Ytbolkipmehmncaa.S
