/- What is to be proved of the law FnExactBallLine: over numbers and lists alone. -/
import Derived.Test.YtnoopmbhdlfkbaaDoorS12
namespace Go.Proofs.YtnoopmbhdlfkbaaDoor.S
open Go.RowKit Go.Proofs.YtnoopmbhdlfkbaaDoorW.PrintWords Go.Proofs.YtnoopmbhdlfkbaaDoorW.PrintLast
def laws_FnExactBallLine.Pure : Prop := ∀ (a0 : Int) (a1 : Int) (a2_0 : Int) (a2_1 : Int) (a2_2 : Int) (a2_3 : Int), (Lit.int .i64 a0).wf = true → (Lit.int .i64 a1).wf = true → (Lit.int .i64 a2_0).wf = true → (Lit.int .i64 a2_1).wf = true → (Lit.int .i64 a2_2).wf = true → (Lit.int .i64 a2_3).wf = true → ∃ k, laws_FnExactBallLine.f k a0 a1 a2_0 a2_1 a2_2 a2_3 = some true
end Go.Proofs.YtnoopmbhdlfkbaaDoor.S
