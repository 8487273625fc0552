/-
  DERIVED. GIVEN WITH THE SEED: THE CARDS: each row of YtfomhkfgdggngaaDoorRows.lean that lists a variable, with what it lists TIED to the program's text (the seventh form; the later family's looks); each row that meets fmt, with fmt's text TOLD by the authors' own Lean function (tested against real Go, not proved from fmt's source: count such statements apart). THE CARD IS WHAT COUNTS. Prove the row's statement (the work); the ties are given (YtfomhkfgdggngaaDoorTie.lean); close each card by the builder's one call (the guide's Derived/Test/ToyasCard.lean, 'card_holds'). Laid BY PROGRAM, IN A SANDBOX (cutbox-door.mjs). By AI agents, Wed Nov 11 2026. No macro, syntax, notation, axiom, sorry.
-/
import Derived.Test.YtfomhkfgdggngaaDoorRows
import GoSem.ClaimSeven
namespace Go.Proofs.YtfomhkfgdggngaaDoor
namespace Rows

/-- THE TIED CARD OF 'laws.FnExactTurnLine'. -/
def fnExactTurnLineCard : Claim7 := { stood := { row := fnExactTurnLineRow, standIns := [], harness := (true, "95fa7b3b9648cf8635b8923edee209a24b8a48dbd9984f21867eba7a94263125"), looks := false }, kinds := [], alts := [], laidByText := true, laidKinds := [.data, .data, .data], laidTests := true, laidLooks := .later }
def FnExactTurnLineCardSaid : Prop := Claim7.holds Tryd.pinned (.plain (OpenSpec.ofChange fnExactTurnLineSpec)) fnExactTurnLineCard

/-- THE SECOND FORM's CARD OF 'laws.FnExactTurnLine'. -/
def fnExactTurnLineUptoCard : Claim7 := { stood := { row := fnExactTurnLineUptoRow, standIns := [], harness := (true, "95fa7b3b9648cf8635b8923edee209a24b8a48dbd9984f21867eba7a94263125"), looks := false }, kinds := [], alts := [], laidByText := true, laidKinds := [.data, .data, .data], laidTests := true, laidLooks := .later }
def FnExactTurnLineUptoCardSaid : Prop := Claim7.holds Tryd.pinned (.plain (OpenSpec.upto fnExactTurnLineSpec)) fnExactTurnLineUptoCard
end Rows
end Go.Proofs.YtfomhkfgdggngaaDoor
