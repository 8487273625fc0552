/- What is to be proved of the law FnExactCellAt: over numbers and lists alone. -/
import Derived.Test.YtekegepppjmldaaPFnExactCellAtx
namespace Go.Proofs.Ytekegepppjmldaa.PFnExactCellAt
open Go.RowKit Go.Proofs.YtekegepppjmldaaW.PrintWords Go.Proofs.YtekegepppjmldaaW.PrintLast
def laws_FnExactCellAt.Pure : Prop := ∀ (l0 : List (S56)) (a1 : Int) (a2 : Int), l0.length ≤ 9223372036854775807 → (∀ x ∈ l0, (Lit.int .i64 x.f0).wf = true ∧ (Lit.int .i64 x.f1).wf = true) → (Lit.int .i64 a1).wf = true → (Lit.int .i64 a2).wf = true → ∃ k, laws_FnExactCellAt.f k l0 a1 a2 = some true
end Go.Proofs.Ytekegepppjmldaa.PFnExactCellAt
