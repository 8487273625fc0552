/- What is to be proved of the law FnExactBouncesIn: over numbers and lists alone. -/
import Derived.Test.YtekegepppjmldaaPFnExactBouncesInx
namespace Go.Proofs.Ytekegepppjmldaa.PFnExactBouncesIn
open Go.RowKit Go.Proofs.YtekegepppjmldaaW.PrintWords Go.Proofs.YtekegepppjmldaaW.PrintLast
def laws_FnExactBouncesIn.Pure : Prop := ∀ (a0 : Int) (a1 : Int) (a2_0 : Int) (a2_1 : Int) (a2_2 : Int) (a2_3 : Int), (Lit.int .i64 a0).wf = true → (Lit.int .i64 a1).wf = true → (Lit.int .i64 a2_0).wf = true → (Lit.int .i64 a2_1).wf = true → (Lit.int .i64 a2_2).wf = true → (Lit.int .i64 a2_3).wf = true → ∃ k, laws_FnExactBouncesIn.f k a0 a1 a2_0 a2_1 a2_2 a2_3 = some true
end Go.Proofs.Ytekegepppjmldaa.PFnExactBouncesIn
