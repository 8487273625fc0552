/- What is to be proved of the law FnTurned: over numbers and lists alone. -/
import Derived.Test.YthhdgeafdnikcaaDoorS11
namespace Go.Proofs.YthhdgeafdnikcaaDoor.S
open Go.RowKit Go.Proofs.YthhdgeafdnikcaaDoorW.PrintWords Go.Proofs.YthhdgeafdnikcaaDoorW.PrintLast
def laws_FnTurned.Pure : Prop := ∀ (l0 : List Int), l0.length ≤ 9223372036854775807 → (∀ x ∈ l0, (Lit.int .u8 x).wf = true) → ∃ k, laws_FnTurned.f k l0 = some true
end Go.Proofs.YthhdgeafdnikcaaDoor.S
