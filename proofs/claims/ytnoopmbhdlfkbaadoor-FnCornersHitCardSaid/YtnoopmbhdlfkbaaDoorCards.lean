/-
  DERIVED. GIVEN WITH THE SEED: THE CARDS: each row of YtnoopmbhdlfkbaaDoorRows.lean that lists a variable, with what it lists TIED to the program's text (the seventh form; the later family's looks); each row that meets fmt, with fmt's text TOLD by the authors' own Lean function (tested against real Go, not proved from fmt's source: count such statements apart). THE CARD IS WHAT COUNTS. Prove the row's statement (the work); the ties are given (YtnoopmbhdlfkbaaDoorTie.lean); close each card by the builder's one call (the guide's Derived/Test/ToyasCard.lean, 'card_holds'). Laid BY PROGRAM, IN A SANDBOX (cutbox-door.mjs). By AI agents, Wed Nov 11 2026. No macro, syntax, notation, axiom, sorry.
-/
import Derived.Test.YtnoopmbhdlfkbaaDoorRows
import GoSem.ClaimSeven
namespace Go.Proofs.YtnoopmbhdlfkbaaDoor
namespace Rows

/-- THE TIED CARD OF 'laws.FnCornersHit'. -/
def fnCornersHitCard : Claim7 := { stood := { row := fnCornersHitRow, standIns := [], harness := (true, "3bf31945b32db850f6fbd7fc90b95f8d1929faf41942c2dd6a5a93c8250d681d"), looks := false }, kinds := [], alts := [], laidByText := true, laidKinds := [.data, .data, .data], laidTests := true, laidLooks := .later }
def FnCornersHitCardSaid : Prop := Claim7.holds Tryd.pinned (.plain (OpenSpec.ofChange fnCornersHitSpec)) fnCornersHitCard

/-- THE TIED CARD OF 'laws.FnExactBallLine'. -/
def fnExactBallLineCard : Claim7 := { stood := { row := fnExactBallLineRow, standIns := [], harness := (true, "3bf31945b32db850f6fbd7fc90b95f8d1929faf41942c2dd6a5a93c8250d681d"), looks := false }, kinds := [], alts := [], laidByText := true, laidKinds := [.data, .data, .data], laidTests := true, laidLooks := .later }
def FnExactBallLineCardSaid : Prop := Claim7.holds Tryd.pinned (.plain (OpenSpec.ofChange fnExactBallLineSpec)) fnExactBallLineCard

/-- THE TIED CARD OF 'laws.FnExactFormatCylinder'. -/
def fnExactFormatCylinderCard : Claim7 := { stood := { row := fnExactFormatCylinderRow, standIns := [], harness := (true, "3bf31945b32db850f6fbd7fc90b95f8d1929faf41942c2dd6a5a93c8250d681d"), looks := false }, kinds := [], alts := [], laidByText := true, laidKinds := [.data, .data, .data], laidTests := true, laidLooks := .later }
def FnExactFormatCylinderCardSaid : Prop := Claim7.holds Tryd.pinned (.plain (OpenSpec.ofChange fnExactFormatCylinderSpec)) fnExactFormatCylinderCard

/-- THE TIED CARD OF 'laws.FnExactFormatRatio'. -/
def fnExactFormatRatioCard : Claim7 := { stood := { row := fnExactFormatRatioRow, standIns := [], harness := (true, "3bf31945b32db850f6fbd7fc90b95f8d1929faf41942c2dd6a5a93c8250d681d"), looks := false }, kinds := [], alts := [], laidByText := true, laidKinds := [.data, .data, .data], laidTests := true, laidLooks := .later }
def FnExactFormatRatioCardSaid : Prop := Claim7.holds Tryd.pinned (.plain (OpenSpec.ofChange fnExactFormatRatioSpec)) fnExactFormatRatioCard

/-- THE TIED CARD OF 'laws.FnExactFormatMatrix'. -/
def fnExactFormatMatrixCard : Claim7 := { stood := { row := fnExactFormatMatrixRow, standIns := [], harness := (true, "3bf31945b32db850f6fbd7fc90b95f8d1929faf41942c2dd6a5a93c8250d681d"), looks := false }, kinds := [], alts := [], laidByText := true, laidKinds := [.data, .data, .data], laidTests := true, laidLooks := .later }
def FnExactFormatMatrixCardSaid : Prop := Claim7.holds Tryd.pinned (.plain (OpenSpec.ofChange fnExactFormatMatrixSpec)) fnExactFormatMatrixCard

/-- THE TIED CARD OF 'laws.FnExactFormatList'. -/
def fnExactFormatListCard : Claim7 := { stood := { row := fnExactFormatListRow, standIns := [], harness := (true, "3bf31945b32db850f6fbd7fc90b95f8d1929faf41942c2dd6a5a93c8250d681d"), looks := false }, kinds := [], alts := [], laidByText := true, laidKinds := [.data, .data, .data], laidTests := true, laidLooks := .later }
def FnExactFormatListCardSaid : Prop := Claim7.holds Tryd.pinned (.plain (OpenSpec.ofChange fnExactFormatListSpec)) fnExactFormatListCard

/-- THE TIED CARD OF 'laws.FnExactCylinderLine'. -/
def fnExactCylinderLineCard : Claim7 := { stood := { row := fnExactCylinderLineRow, standIns := [], harness := (true, "3bf31945b32db850f6fbd7fc90b95f8d1929faf41942c2dd6a5a93c8250d681d"), looks := false }, kinds := [], alts := [], laidByText := true, laidKinds := [.data, .data, .data], laidTests := true, laidLooks := .later }
def FnExactCylinderLineCardSaid : Prop := Claim7.holds Tryd.pinned (.plain (OpenSpec.ofChange fnExactCylinderLineSpec)) fnExactCylinderLineCard

/-- THE TIED CARD OF 'laws.FnMatrices'. -/
def fnMatricesCard : Claim7 := { stood := { row := fnMatricesRow, standIns := [], harness := (true, "3bf31945b32db850f6fbd7fc90b95f8d1929faf41942c2dd6a5a93c8250d681d"), looks := false }, kinds := [], alts := [], laidByText := true, laidKinds := [.data, .data, .data], laidTests := true, laidLooks := .later }
def FnMatricesCardSaid : Prop := Claim7.holds Tryd.pinned (.plain (OpenSpec.ofChange fnMatricesSpec)) fnMatricesCard

/-- THE TIED CARD OF 'laws.FnExactFormatPerm'. -/
def fnExactFormatPermCard : Claim7 := { stood := { row := fnExactFormatPermRow, standIns := [], harness := (true, "3bf31945b32db850f6fbd7fc90b95f8d1929faf41942c2dd6a5a93c8250d681d"), looks := false }, kinds := [], alts := [], laidByText := true, laidKinds := [.data, .data, .data], laidTests := true, laidLooks := .later }
def FnExactFormatPermCardSaid : Prop := Claim7.holds Tryd.pinned (.plain (OpenSpec.ofChange fnExactFormatPermSpec)) fnExactFormatPermCard

/-- THE TIED CARD OF 'laws.FnExactFormatTable'. -/
def fnExactFormatTableCard : Claim7 := { stood := { row := fnExactFormatTableRow, standIns := [], harness := (true, "3bf31945b32db850f6fbd7fc90b95f8d1929faf41942c2dd6a5a93c8250d681d"), looks := false }, kinds := [], alts := [], laidByText := true, laidKinds := [.data, .data, .data], laidTests := true, laidLooks := .later }
def FnExactFormatTableCardSaid : Prop := Claim7.holds Tryd.pinned (.plain (OpenSpec.ofChange fnExactFormatTableSpec)) fnExactFormatTableCard

/-- THE TIED CARD OF 'laws.FnExactFormatSurface'. -/
def fnExactFormatSurfaceCard : Claim7 := { stood := { row := fnExactFormatSurfaceRow, standIns := [], harness := (true, "3bf31945b32db850f6fbd7fc90b95f8d1929faf41942c2dd6a5a93c8250d681d"), looks := false }, kinds := [], alts := [], laidByText := true, laidKinds := [.data, .data, .data], laidTests := true, laidLooks := .later }
def FnExactFormatSurfaceCardSaid : Prop := Claim7.holds Tryd.pinned (.plain (OpenSpec.ofChange fnExactFormatSurfaceSpec)) fnExactFormatSurfaceCard

/-- THE SECOND FORM's CARD OF 'laws.FnCornersHit'. -/
def fnCornersHitUptoCard : Claim7 := { stood := { row := fnCornersHitUptoRow, standIns := [], harness := (true, "3bf31945b32db850f6fbd7fc90b95f8d1929faf41942c2dd6a5a93c8250d681d"), looks := false }, kinds := [], alts := [], laidByText := true, laidKinds := [.data, .data, .data], laidTests := true, laidLooks := .later }
def FnCornersHitUptoCardSaid : Prop := Claim7.holds Tryd.pinned (.plain (OpenSpec.upto fnCornersHitSpec)) fnCornersHitUptoCard

/-- THE SECOND FORM's CARD OF 'laws.FnExactBallLine'. -/
def fnExactBallLineUptoCard : Claim7 := { stood := { row := fnExactBallLineUptoRow, standIns := [], harness := (true, "3bf31945b32db850f6fbd7fc90b95f8d1929faf41942c2dd6a5a93c8250d681d"), looks := false }, kinds := [], alts := [], laidByText := true, laidKinds := [.data, .data, .data], laidTests := true, laidLooks := .later }
def FnExactBallLineUptoCardSaid : Prop := Claim7.holds Tryd.pinned (.plain (OpenSpec.upto fnExactBallLineSpec)) fnExactBallLineUptoCard

/-- THE SECOND FORM's CARD OF 'laws.FnExactFormatCylinder'. -/
def fnExactFormatCylinderUptoCard : Claim7 := { stood := { row := fnExactFormatCylinderUptoRow, standIns := [], harness := (true, "3bf31945b32db850f6fbd7fc90b95f8d1929faf41942c2dd6a5a93c8250d681d"), looks := false }, kinds := [], alts := [], laidByText := true, laidKinds := [.data, .data, .data], laidTests := true, laidLooks := .later }
def FnExactFormatCylinderUptoCardSaid : Prop := Claim7.holds Tryd.pinned (.plain (OpenSpec.upto fnExactFormatCylinderSpec)) fnExactFormatCylinderUptoCard

/-- THE SECOND FORM's CARD OF 'laws.FnExactFormatRatio'. -/
def fnExactFormatRatioUptoCard : Claim7 := { stood := { row := fnExactFormatRatioUptoRow, standIns := [], harness := (true, "3bf31945b32db850f6fbd7fc90b95f8d1929faf41942c2dd6a5a93c8250d681d"), looks := false }, kinds := [], alts := [], laidByText := true, laidKinds := [.data, .data, .data], laidTests := true, laidLooks := .later }
def FnExactFormatRatioUptoCardSaid : Prop := Claim7.holds Tryd.pinned (.plain (OpenSpec.upto fnExactFormatRatioSpec)) fnExactFormatRatioUptoCard

/-- THE SECOND FORM's CARD OF 'laws.FnExactFormatMatrix'. -/
def fnExactFormatMatrixUptoCard : Claim7 := { stood := { row := fnExactFormatMatrixUptoRow, standIns := [], harness := (true, "3bf31945b32db850f6fbd7fc90b95f8d1929faf41942c2dd6a5a93c8250d681d"), looks := false }, kinds := [], alts := [], laidByText := true, laidKinds := [.data, .data, .data], laidTests := true, laidLooks := .later }
def FnExactFormatMatrixUptoCardSaid : Prop := Claim7.holds Tryd.pinned (.plain (OpenSpec.upto fnExactFormatMatrixSpec)) fnExactFormatMatrixUptoCard

/-- THE SECOND FORM's CARD OF 'laws.FnExactFormatList'. -/
def fnExactFormatListUptoCard : Claim7 := { stood := { row := fnExactFormatListUptoRow, standIns := [], harness := (true, "3bf31945b32db850f6fbd7fc90b95f8d1929faf41942c2dd6a5a93c8250d681d"), looks := false }, kinds := [], alts := [], laidByText := true, laidKinds := [.data, .data, .data], laidTests := true, laidLooks := .later }
def FnExactFormatListUptoCardSaid : Prop := Claim7.holds Tryd.pinned (.plain (OpenSpec.upto fnExactFormatListSpec)) fnExactFormatListUptoCard

/-- THE SECOND FORM's CARD OF 'laws.FnExactCylinderLine'. -/
def fnExactCylinderLineUptoCard : Claim7 := { stood := { row := fnExactCylinderLineUptoRow, standIns := [], harness := (true, "3bf31945b32db850f6fbd7fc90b95f8d1929faf41942c2dd6a5a93c8250d681d"), looks := false }, kinds := [], alts := [], laidByText := true, laidKinds := [.data, .data, .data], laidTests := true, laidLooks := .later }
def FnExactCylinderLineUptoCardSaid : Prop := Claim7.holds Tryd.pinned (.plain (OpenSpec.upto fnExactCylinderLineSpec)) fnExactCylinderLineUptoCard

/-- THE SECOND FORM's CARD OF 'laws.FnMatrices'. -/
def fnMatricesUptoCard : Claim7 := { stood := { row := fnMatricesUptoRow, standIns := [], harness := (true, "3bf31945b32db850f6fbd7fc90b95f8d1929faf41942c2dd6a5a93c8250d681d"), looks := false }, kinds := [], alts := [], laidByText := true, laidKinds := [.data, .data, .data], laidTests := true, laidLooks := .later }
def FnMatricesUptoCardSaid : Prop := Claim7.holds Tryd.pinned (.plain (OpenSpec.upto fnMatricesSpec)) fnMatricesUptoCard

/-- THE SECOND FORM's CARD OF 'laws.FnExactFormatPerm'. -/
def fnExactFormatPermUptoCard : Claim7 := { stood := { row := fnExactFormatPermUptoRow, standIns := [], harness := (true, "3bf31945b32db850f6fbd7fc90b95f8d1929faf41942c2dd6a5a93c8250d681d"), looks := false }, kinds := [], alts := [], laidByText := true, laidKinds := [.data, .data, .data], laidTests := true, laidLooks := .later }
def FnExactFormatPermUptoCardSaid : Prop := Claim7.holds Tryd.pinned (.plain (OpenSpec.upto fnExactFormatPermSpec)) fnExactFormatPermUptoCard

/-- THE SECOND FORM's CARD OF 'laws.FnExactFormatTable'. -/
def fnExactFormatTableUptoCard : Claim7 := { stood := { row := fnExactFormatTableUptoRow, standIns := [], harness := (true, "3bf31945b32db850f6fbd7fc90b95f8d1929faf41942c2dd6a5a93c8250d681d"), looks := false }, kinds := [], alts := [], laidByText := true, laidKinds := [.data, .data, .data], laidTests := true, laidLooks := .later }
def FnExactFormatTableUptoCardSaid : Prop := Claim7.holds Tryd.pinned (.plain (OpenSpec.upto fnExactFormatTableSpec)) fnExactFormatTableUptoCard

/-- THE SECOND FORM's CARD OF 'laws.FnExactFormatSurface'. -/
def fnExactFormatSurfaceUptoCard : Claim7 := { stood := { row := fnExactFormatSurfaceUptoRow, standIns := [], harness := (true, "3bf31945b32db850f6fbd7fc90b95f8d1929faf41942c2dd6a5a93c8250d681d"), looks := false }, kinds := [], alts := [], laidByText := true, laidKinds := [.data, .data, .data], laidTests := true, laidLooks := .later }
def FnExactFormatSurfaceUptoCardSaid : Prop := Claim7.holds Tryd.pinned (.plain (OpenSpec.upto fnExactFormatSurfaceSpec)) fnExactFormatSurfaceUptoCard
end Rows
end Go.Proofs.YtnoopmbhdlfkbaaDoor
