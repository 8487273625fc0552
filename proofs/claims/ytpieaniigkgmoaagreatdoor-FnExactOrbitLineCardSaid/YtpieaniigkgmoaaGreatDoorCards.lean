/-
  DERIVED. GIVEN WITH THE SEED: THE CARDS: each row of YtpieaniigkgmoaaGreatDoorRows.lean that lists a variable, with what it lists TIED to the program's text (the seventh form; the later family's looks); each row that meets fmt, with fmt's text TOLD by the authors' own Lean function (tested against real Go, not proved from fmt's source: count such statements apart). THE CARD IS WHAT COUNTS. Prove the row's statement (the work); the ties are given (YtpieaniigkgmoaaGreatDoorTie.lean); close each card by the builder's one call (the guide's Derived/Test/ToyasCard.lean, 'card_holds'). Laid BY PROGRAM, IN A SANDBOX (cutbox-door.mjs). By AI agents, Wed Nov 11 2026. No macro, syntax, notation, axiom, sorry.
-/
import Derived.Test.YtpieaniigkgmoaaGreatDoorRows
import GoSem.ClaimSeven
namespace Go.Proofs.YtpieaniigkgmoaaGreatDoor
namespace Rows

/-- THE TIED CARD OF 'laws.FnExactOrbitLine'. -/
def fnExactOrbitLineCard : Claim7 := { stood := { row := fnExactOrbitLineRow, standIns := [], harness := (true, "ac5c770235809731201f0158be71075bcd8f616ec1b5dd65de5e6b95d52f2e15"), looks := false }, kinds := [], alts := [], laidByText := true, laidKinds := [.data, .data, .data], laidTests := true, laidLooks := .later }
def FnExactOrbitLineCardSaid : Prop := Claim7.holds Tryz.pinned (.plain (OpenSpec.ofChange fnExactOrbitLineSpec)) fnExactOrbitLineCard

/-- THE SECOND FORM's CARD OF 'laws.FnExactOrbitLine'. -/
def fnExactOrbitLineUptoCard : Claim7 := { stood := { row := fnExactOrbitLineUptoRow, standIns := [], harness := (true, "ac5c770235809731201f0158be71075bcd8f616ec1b5dd65de5e6b95d52f2e15"), looks := false }, kinds := [], alts := [], laidByText := true, laidKinds := [.data, .data, .data], laidTests := true, laidLooks := .later }
def FnExactOrbitLineUptoCardSaid : Prop := Claim7.holds Tryz.pinned (.plain (OpenSpec.upto fnExactOrbitLineSpec)) fnExactOrbitLineUptoCard
end Rows
end Go.Proofs.YtpieaniigkgmoaaGreatDoor
