/- What is to be proved of the law FnExactRotationOf: over numbers and lists alone. -/
import Derived.Test.YtjokajioaoiceaaS26
namespace Go.Proofs.Ytjokajioaoiceaa.S
open Go.RowKit Go.Proofs.YtjokajioaoiceaaW.PrintWords Go.Proofs.YtjokajioaoiceaaW.PrintLast
def laws_FnExactRotationOf.Pure : Prop := ∀ (a0 : Int) (a1 : Int), (Lit.int .i64 a0).wf = true → (Lit.int .i64 a1).wf = true → ∃ k, laws_FnExactRotationOf.f k a0 a1 = some true
end Go.Proofs.Ytjokajioaoiceaa.S
