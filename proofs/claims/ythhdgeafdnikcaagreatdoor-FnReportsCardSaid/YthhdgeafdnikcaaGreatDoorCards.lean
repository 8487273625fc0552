/-
  DERIVED. GIVEN WITH THE SEED: THE CARDS: each row of YthhdgeafdnikcaaGreatDoorRows.lean that lists a variable, with what it lists TIED to the program's text (the seventh form; the later family's looks); each row that meets fmt, with fmt's text TOLD by the authors' own Lean function (tested against real Go, not proved from fmt's source: count such statements apart). THE CARD IS WHAT COUNTS. Prove the row's statement (the work); the ties are given (YthhdgeafdnikcaaGreatDoorTie.lean); close each card by the builder's one call (the guide's Derived/Test/ToyasCard.lean, 'card_holds'). Laid BY PROGRAM, IN A SANDBOX (cutbox-door.mjs). By AI agents, Wed Nov 11 2026. No macro, syntax, notation, axiom, sorry.
-/
import Derived.Test.YthhdgeafdnikcaaGreatDoorRows
import GoSem.ClaimSeven
namespace Go.Proofs.YthhdgeafdnikcaaGreatDoor
namespace Rows

/-- THE TIED CARD OF 'laws.FnReports'. -/
def fnReportsCard : Claim7 := { stood := { row := fnReportsRow, standIns := [], harness := (true, "816299220cbad7b3fb8ad5c88b3e6da913aef6687577b7acfcb4cba1b7d7eb3f"), looks := false }, kinds := [], alts := [], laidByText := true, laidKinds := [.data, .data, .data], laidTests := true, laidLooks := .later }
def FnReportsCardSaid : Prop := Claim7.holds Tryz.pinned (.plain (OpenSpec.ofChange fnReportsSpec)) fnReportsCard

/-- THE TIED CARD OF 'laws.FnExactOrbitLine'. -/
def fnExactOrbitLineCard : Claim7 := { stood := { row := fnExactOrbitLineRow, standIns := [], harness := (true, "816299220cbad7b3fb8ad5c88b3e6da913aef6687577b7acfcb4cba1b7d7eb3f"), looks := false }, kinds := [], alts := [], laidByText := true, laidKinds := [.data, .data, .data], laidTests := true, laidLooks := .later }
def FnExactOrbitLineCardSaid : Prop := Claim7.holds Tryz.pinned (.plain (OpenSpec.ofChange fnExactOrbitLineSpec)) fnExactOrbitLineCard

/-- THE TIED CARD OF 'laws.FnExactSurfaceLines'. -/
def fnExactSurfaceLinesCard : Claim7 := { stood := { row := fnExactSurfaceLinesRow, standIns := [], harness := (true, "816299220cbad7b3fb8ad5c88b3e6da913aef6687577b7acfcb4cba1b7d7eb3f"), looks := false }, kinds := [], alts := [], laidByText := true, laidKinds := [.data, .data, .data], laidTests := true, laidLooks := .later }
def FnExactSurfaceLinesCardSaid : Prop := Claim7.holds Tryz.pinned (.plain (OpenSpec.ofChange fnExactSurfaceLinesSpec)) fnExactSurfaceLinesCard

/-- THE SECOND FORM's CARD OF 'laws.FnReports'. -/
def fnReportsUptoCard : Claim7 := { stood := { row := fnReportsUptoRow, standIns := [], harness := (true, "816299220cbad7b3fb8ad5c88b3e6da913aef6687577b7acfcb4cba1b7d7eb3f"), looks := false }, kinds := [], alts := [], laidByText := true, laidKinds := [.data, .data, .data], laidTests := true, laidLooks := .later }
def FnReportsUptoCardSaid : Prop := Claim7.holds Tryz.pinned (.plain (OpenSpec.upto fnReportsSpec)) fnReportsUptoCard

/-- THE SECOND FORM's CARD OF 'laws.FnExactOrbitLine'. -/
def fnExactOrbitLineUptoCard : Claim7 := { stood := { row := fnExactOrbitLineUptoRow, standIns := [], harness := (true, "816299220cbad7b3fb8ad5c88b3e6da913aef6687577b7acfcb4cba1b7d7eb3f"), looks := false }, kinds := [], alts := [], laidByText := true, laidKinds := [.data, .data, .data], laidTests := true, laidLooks := .later }
def FnExactOrbitLineUptoCardSaid : Prop := Claim7.holds Tryz.pinned (.plain (OpenSpec.upto fnExactOrbitLineSpec)) fnExactOrbitLineUptoCard

/-- THE SECOND FORM's CARD OF 'laws.FnExactSurfaceLines'. -/
def fnExactSurfaceLinesUptoCard : Claim7 := { stood := { row := fnExactSurfaceLinesUptoRow, standIns := [], harness := (true, "816299220cbad7b3fb8ad5c88b3e6da913aef6687577b7acfcb4cba1b7d7eb3f"), looks := false }, kinds := [], alts := [], laidByText := true, laidKinds := [.data, .data, .data], laidTests := true, laidLooks := .later }
def FnExactSurfaceLinesUptoCardSaid : Prop := Claim7.holds Tryz.pinned (.plain (OpenSpec.upto fnExactSurfaceLinesSpec)) fnExactSurfaceLinesUptoCard
end Rows
end Go.Proofs.YthhdgeafdnikcaaGreatDoor
