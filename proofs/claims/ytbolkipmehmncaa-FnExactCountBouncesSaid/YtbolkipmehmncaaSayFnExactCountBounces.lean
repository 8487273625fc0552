/- What is to be proved of the law FnExactCountBounces: over numbers and lists alone. -/
import Derived.Test.YtbolkipmehmncaaS11
namespace Go.Proofs.Ytbolkipmehmncaa.S
open Go.RowKit Go.Proofs.YtbolkipmehmncaaW.PrintWords Go.Proofs.YtbolkipmehmncaaW.PrintLast
def laws_FnExactCountBounces.Pure : Prop := ∀ (l0 : List (S74)) (a1 : Int) (a2 : Int) (a3 : Int), l0.length ≤ 9223372036854775807 → (∀ x ∈ l0, (Lit.int .i64 x.f0).wf = true ∧ (Lit.int .i64 x.f1).wf = true) → (Lit.int .i64 a1).wf = true → (Lit.int .i64 a2).wf = true → (Lit.int .i64 a3).wf = true → ∃ k, laws_FnExactCountBounces.f k l0 a1 a2 a3 = some true
end Go.Proofs.Ytbolkipmehmncaa.S
