/- What is to be proved of the law FnExactFormatRatio: over numbers and lists alone. -/
import Derived.Test.YtnoopmbhdlfkbaaDoorS14
namespace Go.Proofs.YtnoopmbhdlfkbaaDoor.S
open Go.RowKit Go.Proofs.YtnoopmbhdlfkbaaDoorW.PrintWords Go.Proofs.YtnoopmbhdlfkbaaDoorW.PrintLast
def laws_FnExactFormatRatio.Pure : Prop := ∀ (a0_0 : Int) (a0_1 : Int), (Lit.int .i64 a0_0).wf = true → (Lit.int .i64 a0_1).wf = true → ∃ k, laws_FnExactFormatRatio.f k a0_0 a0_1 = some true
end Go.Proofs.YtnoopmbhdlfkbaaDoor.S
