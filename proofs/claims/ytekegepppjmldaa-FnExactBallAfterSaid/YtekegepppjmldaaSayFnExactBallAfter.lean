/- What is to be proved of the law FnExactBallAfter: over numbers and lists alone. -/
import Derived.Test.YtekegepppjmldaaPFnExactBallAfterx
namespace Go.Proofs.Ytekegepppjmldaa.PFnExactBallAfter
open Go.RowKit Go.Proofs.YtekegepppjmldaaW.PrintWords Go.Proofs.YtekegepppjmldaaW.PrintLast
def laws_FnExactBallAfter.Pure : Prop := ∀ (a0 : Int) (a1 : Int) (a2_0 : Int) (a2_1 : Int) (a2_2 : Int) (a2_3 : Int) (a3 : Int), (Lit.int .i64 a0).wf = true → (Lit.int .i64 a1).wf = true → (Lit.int .i64 a2_0).wf = true → (Lit.int .i64 a2_1).wf = true → (Lit.int .i64 a2_2).wf = true → (Lit.int .i64 a2_3).wf = true → (Lit.int .i64 a3).wf = true → ∃ k, laws_FnExactBallAfter.f k a0 a1 a2_0 a2_1 a2_2 a2_3 a3 = some true
end Go.Proofs.Ytekegepppjmldaa.PFnExactBallAfter
