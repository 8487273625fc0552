/- What is to be proved of the law FnExactUnfoldTable: over numbers and lists alone. -/
import Derived.Test.YtjokajioaoiceaaS22
namespace Go.Proofs.Ytjokajioaoiceaa.S
open Go.RowKit Go.Proofs.YtjokajioaoiceaaW.PrintWords Go.Proofs.YtjokajioaoiceaaW.PrintLast
def laws_FnExactUnfoldTable.Pure : Prop := ∀ (l0 : List (S68)), l0.length ≤ 9223372036854775807 → (∀ x ∈ l0, (Lit.int .i64 x.f0).wf = true ∧ (Lit.int .i64 x.f1).wf = true) → ∃ k, laws_FnExactUnfoldTable.f k l0 = some true
end Go.Proofs.Ytjokajioaoiceaa.S
