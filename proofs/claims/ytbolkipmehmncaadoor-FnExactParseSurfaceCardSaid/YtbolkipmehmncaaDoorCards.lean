/-
  DERIVED. GIVEN WITH THE SEED: THE CARDS: each row of YtbolkipmehmncaaDoorRows.lean that lists a variable, with what it lists TIED to the program's text (the seventh form; the later family's looks); each row that meets fmt, with fmt's text TOLD by the authors' own Lean function (tested against real Go, not proved from fmt's source: count such statements apart). THE CARD IS WHAT COUNTS. Prove the row's statement (the work); the ties are given (YtbolkipmehmncaaDoorTie.lean); close each card by the builder's one call (the guide's Derived/Test/ToyasCard.lean, 'card_holds'). Laid BY PROGRAM, IN A SANDBOX (cutbox-door.mjs). By AI agents, Wed Nov 11 2026. No macro, syntax, notation, axiom, sorry.
-/
import Derived.Test.YtbolkipmehmncaaDoorRows
import GoSem.ClaimSeven
namespace Go.Proofs.YtbolkipmehmncaaDoor
namespace Rows

/-- THE TIED CARD OF 'laws.FnExactExchangeLine'. -/
def fnExactExchangeLineCard : Claim7 := { stood := { row := fnExactExchangeLineRow, standIns := [], harness := (true, "46ad96818b4f7573a6e1f74ece4115546d7d611858fef5cb8eba0fc9eee18168"), looks := true }, kinds := [], alts := [], laidByText := true, laidKinds := [.data, .data, .data], laidTests := true, laidLooks := .later }
def FnExactExchangeLineCardSaid : Prop := Claim7.holds Tryd.pinned (.plain (OpenSpec.ofChange fnExactExchangeLineSpec)) fnExactExchangeLineCard

/-- THE TIED CARD OF 'laws.FnExchanges'. -/
def fnExchangesCard : Claim7 := { stood := { row := fnExchangesRow, standIns := [], harness := (true, "46ad96818b4f7573a6e1f74ece4115546d7d611858fef5cb8eba0fc9eee18168"), looks := true }, kinds := [], alts := [], laidByText := true, laidKinds := [.data, .data, .data], laidTests := true, laidLooks := .later }
def FnExchangesCardSaid : Prop := Claim7.holds Tryd.pinned (.plain (OpenSpec.ofChange fnExchangesSpec)) fnExchangesCard

/-- THE TIED CARD OF 'laws.FnExactTurnLine'. -/
def fnExactTurnLineCard : Claim7 := { stood := { row := fnExactTurnLineRow, standIns := [], harness := (true, "46ad96818b4f7573a6e1f74ece4115546d7d611858fef5cb8eba0fc9eee18168"), looks := true }, kinds := [], alts := [], laidByText := true, laidKinds := [.data, .data, .data], laidTests := true, laidLooks := .later }
def FnExactTurnLineCardSaid : Prop := Claim7.holds Tryd.pinned (.plain (OpenSpec.ofChange fnExactTurnLineSpec)) fnExactTurnLineCard

/-- THE TIED CARD OF 'laws.FnExactParseTable'. -/
def fnExactParseTableCard : Claim7 := { stood := { row := fnExactParseTableRow, standIns := [], harness := (true, "46ad96818b4f7573a6e1f74ece4115546d7d611858fef5cb8eba0fc9eee18168"), looks := true }, kinds := [], alts := [], laidByText := true, laidKinds := [.data, .data, .data, .data, .sentinel, .sentinel, .pinned], laidTests := true, laidLooks := .later }
def FnExactParseTableCardSaid : Prop := Claim7.holds Tryd.pinned (.plain (OpenSpec.ofChange fnExactParseTableSpec)) fnExactParseTableCard

/-- THE TIED CARD OF 'laws.FnExactParseSurface'. -/
def fnExactParseSurfaceCard : Claim7 := { stood := { row := fnExactParseSurfaceRow, standIns := [], harness := (true, "46ad96818b4f7573a6e1f74ece4115546d7d611858fef5cb8eba0fc9eee18168"), looks := true }, kinds := [], alts := [], laidByText := true, laidKinds := [.data, .data, .data, .data, .sentinel, .sentinel, .pinned], laidTests := true, laidLooks := .later }
def FnExactParseSurfaceCardSaid : Prop := Claim7.holds Tryd.pinned (.plain (OpenSpec.ofChange fnExactParseSurfaceSpec)) fnExactParseSurfaceCard

/-- THE SECOND FORM's CARD OF 'laws.FnExactExchangeLine'. -/
def fnExactExchangeLineUptoCard : Claim7 := { stood := { row := fnExactExchangeLineUptoRow, standIns := [], harness := (true, "46ad96818b4f7573a6e1f74ece4115546d7d611858fef5cb8eba0fc9eee18168"), looks := true }, kinds := [], alts := [], laidByText := true, laidKinds := [.data, .data, .data], laidTests := true, laidLooks := .later }
def FnExactExchangeLineUptoCardSaid : Prop := Claim7.holds Tryd.pinned (.plain (OpenSpec.upto fnExactExchangeLineSpec)) fnExactExchangeLineUptoCard

/-- THE SECOND FORM's CARD OF 'laws.FnExchanges'. -/
def fnExchangesUptoCard : Claim7 := { stood := { row := fnExchangesUptoRow, standIns := [], harness := (true, "46ad96818b4f7573a6e1f74ece4115546d7d611858fef5cb8eba0fc9eee18168"), looks := true }, kinds := [], alts := [], laidByText := true, laidKinds := [.data, .data, .data], laidTests := true, laidLooks := .later }
def FnExchangesUptoCardSaid : Prop := Claim7.holds Tryd.pinned (.plain (OpenSpec.upto fnExchangesSpec)) fnExchangesUptoCard

/-- THE SECOND FORM's CARD OF 'laws.FnExactTurnLine'. -/
def fnExactTurnLineUptoCard : Claim7 := { stood := { row := fnExactTurnLineUptoRow, standIns := [], harness := (true, "46ad96818b4f7573a6e1f74ece4115546d7d611858fef5cb8eba0fc9eee18168"), looks := true }, kinds := [], alts := [], laidByText := true, laidKinds := [.data, .data, .data], laidTests := true, laidLooks := .later }
def FnExactTurnLineUptoCardSaid : Prop := Claim7.holds Tryd.pinned (.plain (OpenSpec.upto fnExactTurnLineSpec)) fnExactTurnLineUptoCard

/-- THE SECOND FORM's CARD OF 'laws.FnExactParseTable'. -/
def fnExactParseTableUptoCard : Claim7 := { stood := { row := fnExactParseTableUptoRow, standIns := [], harness := (true, "46ad96818b4f7573a6e1f74ece4115546d7d611858fef5cb8eba0fc9eee18168"), looks := true }, kinds := [], alts := [], laidByText := true, laidKinds := [.data, .data, .data, .data, .sentinel, .sentinel, .pinned], laidTests := true, laidLooks := .later }
def FnExactParseTableUptoCardSaid : Prop := Claim7.holds Tryd.pinned (.plain (OpenSpec.upto fnExactParseTableSpec)) fnExactParseTableUptoCard

/-- THE SECOND FORM's CARD OF 'laws.FnExactParseSurface'. -/
def fnExactParseSurfaceUptoCard : Claim7 := { stood := { row := fnExactParseSurfaceUptoRow, standIns := [], harness := (true, "46ad96818b4f7573a6e1f74ece4115546d7d611858fef5cb8eba0fc9eee18168"), looks := true }, kinds := [], alts := [], laidByText := true, laidKinds := [.data, .data, .data, .data, .sentinel, .sentinel, .pinned], laidTests := true, laidLooks := .later }
def FnExactParseSurfaceUptoCardSaid : Prop := Claim7.holds Tryd.pinned (.plain (OpenSpec.upto fnExactParseSurfaceSpec)) fnExactParseSurfaceUptoCard
end Rows
end Go.Proofs.YtbolkipmehmncaaDoor
