/- What is to be proved of the law FnExactFormatMatrix: over numbers and lists alone. -/
import Derived.Test.YtnoopmbhdlfkbaaDoorS15
namespace Go.Proofs.YtnoopmbhdlfkbaaDoor.S
open Go.RowKit Go.Proofs.YtnoopmbhdlfkbaaDoorW.PrintWords Go.Proofs.YtnoopmbhdlfkbaaDoorW.PrintLast
def laws_FnExactFormatMatrix.Pure : Prop := ∀ (a0_0 : Int) (a0_1 : Int) (a0_2 : Int) (a0_3 : Int), (Lit.int .i64 a0_0).wf = true → (Lit.int .i64 a0_1).wf = true → (Lit.int .i64 a0_2).wf = true → (Lit.int .i64 a0_3).wf = true → ∃ k, laws_FnExactFormatMatrix.f k a0_0 a0_1 a0_2 a0_3 = some true
end Go.Proofs.YtnoopmbhdlfkbaaDoor.S
