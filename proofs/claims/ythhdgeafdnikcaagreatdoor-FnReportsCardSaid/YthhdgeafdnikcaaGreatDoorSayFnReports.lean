/- What is to be proved of the law FnReports: over numbers and lists alone. -/
import Derived.Test.YthhdgeafdnikcaaGreatDoorS8
namespace Go.Proofs.YthhdgeafdnikcaaGreatDoor.S
open Go.RowKit Go.Proofs.YthhdgeafdnikcaaGreatDoorW.PrintWords Go.Proofs.YthhdgeafdnikcaaGreatDoorW.PrintLast
def laws_FnReports.Pure : Prop := ∀ (l0 : List Int), l0.length ≤ 9223372036854775807 → (∀ x ∈ l0, (Lit.int .u8 x).wf = true) → ∃ k, laws_FnReports.f k l0 = some true
end Go.Proofs.YthhdgeafdnikcaaGreatDoor.S
