/- What is to be proved of the law FnTables: over numbers and lists alone. -/
import Derived.Test.YtlbhjemkjkdndaaS11
namespace Go.Proofs.Ytlbhjemkjkdndaa.S
open Go.RowKit Go.Proofs.YtlbhjemkjkdndaaW.PrintWords Go.Proofs.YtlbhjemkjkdndaaW.PrintLast
def laws_FnTables.Pure : Prop := ∀ (l0 : List Int), l0.length ≤ 9223372036854775807 → (∀ x ∈ l0, (Lit.int .u8 x).wf = true) → ∃ k, laws_FnTables.f k l0 = some true
end Go.Proofs.Ytlbhjemkjkdndaa.S
