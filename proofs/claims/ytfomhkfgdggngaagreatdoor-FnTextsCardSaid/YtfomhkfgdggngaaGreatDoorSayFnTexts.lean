/- What is to be proved of the law FnTexts: over numbers and lists alone. -/
import Derived.Test.YtfomhkfgdggngaaGreatDoorS9
namespace Go.Proofs.YtfomhkfgdggngaaGreatDoor.S
open Go.RowKit Go.Proofs.YtfomhkfgdggngaaGreatDoorW.PrintWords Go.Proofs.YtfomhkfgdggngaaGreatDoorW.PrintLast
def laws_FnTexts.Pure : Prop := ∀ (l0 : List Int), l0.length ≤ 9223372036854775807 → (∀ x ∈ l0, (Lit.int .u8 x).wf = true) → ∃ k, laws_FnTexts.f k l0 = some true
end Go.Proofs.YtfomhkfgdggngaaGreatDoor.S
