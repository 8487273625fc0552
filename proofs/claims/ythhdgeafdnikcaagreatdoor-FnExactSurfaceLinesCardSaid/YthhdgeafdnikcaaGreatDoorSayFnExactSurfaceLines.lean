/- What is to be proved of the law FnExactSurfaceLines: over numbers and lists alone. -/
import Derived.Test.YthhdgeafdnikcaaGreatDoorS10
namespace Go.Proofs.YthhdgeafdnikcaaGreatDoor.S
open Go.RowKit Go.Proofs.YthhdgeafdnikcaaGreatDoorW.PrintWords Go.Proofs.YthhdgeafdnikcaaGreatDoorW.PrintLast
def laws_FnExactSurfaceLines.Pure : Prop := ∀ (l0_0 : List Int) (l0_1 : List Int), l0_0.length ≤ 9223372036854775807 → (∀ x ∈ l0_0, (Lit.int .i64 x).wf = true) → l0_1.length ≤ 9223372036854775807 → (∀ x ∈ l0_1, (Lit.int .i64 x).wf = true) → ∃ k, laws_FnExactSurfaceLines.f k l0_0 l0_1 = some true
end Go.Proofs.YthhdgeafdnikcaaGreatDoor.S
