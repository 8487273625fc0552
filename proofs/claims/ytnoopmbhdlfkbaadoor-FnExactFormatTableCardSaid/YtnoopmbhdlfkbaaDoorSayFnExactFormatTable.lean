/- What is to be proved of the law FnExactFormatTable: over numbers and lists alone. -/
import Derived.Test.YtnoopmbhdlfkbaaDoorS23
namespace Go.Proofs.YtnoopmbhdlfkbaaDoor.S
open Go.RowKit Go.Proofs.YtnoopmbhdlfkbaaDoorW.PrintWords Go.Proofs.YtnoopmbhdlfkbaaDoorW.PrintLast
def laws_FnExactFormatTable.Pure : Prop := ∀ (l0 : List (S114)), l0.length ≤ 9223372036854775807 → (∀ x ∈ l0, (Lit.int .i64 x.f0).wf = true ∧ (Lit.int .i64 x.f1).wf = true) → ∃ k, laws_FnExactFormatTable.f k l0 = some true
end Go.Proofs.YtnoopmbhdlfkbaaDoor.S
