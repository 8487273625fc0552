/- What is to be proved of the law FnExactOrbitLine: over numbers and lists alone. -/
import Derived.Test.YtpieaniigkgmoaaGreatDoorS10
namespace Go.Proofs.YtpieaniigkgmoaaGreatDoor.S
open Go.RowKit Go.Proofs.YtpieaniigkgmoaaGreatDoorW.PrintWords Go.Proofs.YtpieaniigkgmoaaGreatDoorW.PrintLast
def laws_FnExactOrbitLine.Pure : Prop := ∀ (l0_0 : List Int) (l0_1 : List Int), l0_0.length ≤ 9223372036854775807 → (∀ x ∈ l0_0, (Lit.int .i64 x).wf = true) → l0_1.length ≤ 9223372036854775807 → (∀ x ∈ l0_1, (Lit.int .i64 x).wf = true) → ∃ k, laws_FnExactOrbitLine.f k l0_0 l0_1 = some true
end Go.Proofs.YtpieaniigkgmoaaGreatDoor.S
