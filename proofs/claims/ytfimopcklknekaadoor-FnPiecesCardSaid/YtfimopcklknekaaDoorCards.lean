/-
  DERIVED. GIVEN WITH THE SEED: THE CARDS: each row of YtfimopcklknekaaDoorRows.lean that lists a variable, with what it lists TIED to the program's text (the seventh form; the later family's looks); each row that meets fmt, with fmt's text TOLD by the authors' own Lean function (tested against real Go, not proved from fmt's source: count such statements apart). THE CARD IS WHAT COUNTS. Prove the row's statement (the work); the ties are given (YtfimopcklknekaaDoorTie.lean); close each card by the builder's one call (the guide's Derived/Test/ToyasCard.lean, 'card_holds'). Laid BY PROGRAM, IN A SANDBOX (cutbox-door.mjs). By AI agents, Wed Nov 11 2026. No macro, syntax, notation, axiom, sorry.
-/
import Derived.Test.YtfimopcklknekaaDoorRows
import GoSem.ClaimSeven
namespace Go.Proofs.YtfimopcklknekaaDoor
namespace Rows

/-- THE TIED CARD OF 'laws.FnPieces'. -/
def fnPiecesCard : Claim7 := { stood := { row := fnPiecesRow, standIns := [], harness := (true, "9940a1c9eb11a0f4bdbbd0bec7accb76b16b326dc2a422efa21d3231e7e77e8c"), looks := false }, kinds := [], alts := [], laidByText := true, laidKinds := [.data, .pinned], laidTests := true, laidLooks := .later }
def FnPiecesCardSaid : Prop := Claim7.holds Tryd.pinned (.plain (OpenSpec.ofChange fnPiecesSpec)) fnPiecesCard

/-- THE TIED CARD OF 'laws.FnExactParsePlace'. -/
def fnExactParsePlaceCard : Claim7 := { stood := { row := fnExactParsePlaceRow, standIns := [], harness := (true, "9940a1c9eb11a0f4bdbbd0bec7accb76b16b326dc2a422efa21d3231e7e77e8c"), looks := false }, kinds := [], alts := [], laidByText := true, laidKinds := [.data, .pinned], laidTests := true, laidLooks := .later }
def FnExactParsePlaceCardSaid : Prop := Claim7.holds Tryd.pinned (.plain (OpenSpec.ofChange fnExactParsePlaceSpec)) fnExactParsePlaceCard

/-- THE TIED CARD OF 'laws.FnTokens'. -/
def fnTokensCard : Claim7 := { stood := { row := fnTokensRow, standIns := [], harness := (true, "9940a1c9eb11a0f4bdbbd0bec7accb76b16b326dc2a422efa21d3231e7e77e8c"), looks := false }, kinds := [], alts := [], laidByText := true, laidKinds := [.data, .pinned], laidTests := true, laidLooks := .later }
def FnTokensCardSaid : Prop := Claim7.holds Tryd.pinned (.plain (OpenSpec.ofChange fnTokensSpec)) fnTokensCard

/-- THE TIED CARD OF 'laws.FnNumText'. -/
def fnNumTextCard : Claim7 := { stood := { row := fnNumTextRow, standIns := [], harness := (true, "9940a1c9eb11a0f4bdbbd0bec7accb76b16b326dc2a422efa21d3231e7e77e8c"), looks := false }, kinds := [], alts := [], laidByText := true, laidKinds := [.data, .data, .data, .data, .pinned], laidTests := true, laidLooks := .later }
def FnNumTextCardSaid : Prop := Claim7.holds Tryd.pinned (.plain (OpenSpec.ofChange fnNumTextSpec)) fnNumTextCard

/-- THE TIED CARD OF 'laws.FnExactCondTrue'. -/
def fnExactCondTrueCard : Claim7 := { stood := { row := fnExactCondTrueRow, standIns := [], harness := (true, "9940a1c9eb11a0f4bdbbd0bec7accb76b16b326dc2a422efa21d3231e7e77e8c"), looks := false }, kinds := [], alts := [], laidByText := true, laidKinds := [.data, .data, .data, .data, .pinned], laidTests := true, laidLooks := .later }
def FnExactCondTrueCardSaid : Prop := Claim7.holds Tryd.pinned (.plain (OpenSpec.ofChange fnExactCondTrueSpec)) fnExactCondTrueCard

/-- THE TIED CARD OF 'laws.FnOrderTotal'. -/
def fnOrderTotalCard : Claim7 := { stood := { row := fnOrderTotalRow, standIns := [], harness := (true, "9940a1c9eb11a0f4bdbbd0bec7accb76b16b326dc2a422efa21d3231e7e77e8c"), looks := false }, kinds := [], alts := [], laidByText := true, laidKinds := [.data, .data, .data, .data, .pinned], laidTests := true, laidLooks := .later }
def FnOrderTotalCardSaid : Prop := Claim7.holds Tryd.pinned (.plain (OpenSpec.ofChange fnOrderTotalSpec)) fnOrderTotalCard

/-- THE SECOND FORM's CARD OF 'laws.FnPieces'. -/
def fnPiecesUptoCard : Claim7 := { stood := { row := fnPiecesUptoRow, standIns := [], harness := (true, "9940a1c9eb11a0f4bdbbd0bec7accb76b16b326dc2a422efa21d3231e7e77e8c"), looks := false }, kinds := [], alts := [], laidByText := true, laidKinds := [.data, .pinned], laidTests := true, laidLooks := .later }
def FnPiecesUptoCardSaid : Prop := Claim7.holds Tryd.pinned (.plain (OpenSpec.upto fnPiecesSpec)) fnPiecesUptoCard

/-- THE SECOND FORM's CARD OF 'laws.FnExactParsePlace'. -/
def fnExactParsePlaceUptoCard : Claim7 := { stood := { row := fnExactParsePlaceUptoRow, standIns := [], harness := (true, "9940a1c9eb11a0f4bdbbd0bec7accb76b16b326dc2a422efa21d3231e7e77e8c"), looks := false }, kinds := [], alts := [], laidByText := true, laidKinds := [.data, .pinned], laidTests := true, laidLooks := .later }
def FnExactParsePlaceUptoCardSaid : Prop := Claim7.holds Tryd.pinned (.plain (OpenSpec.upto fnExactParsePlaceSpec)) fnExactParsePlaceUptoCard

/-- THE SECOND FORM's CARD OF 'laws.FnTokens'. -/
def fnTokensUptoCard : Claim7 := { stood := { row := fnTokensUptoRow, standIns := [], harness := (true, "9940a1c9eb11a0f4bdbbd0bec7accb76b16b326dc2a422efa21d3231e7e77e8c"), looks := false }, kinds := [], alts := [], laidByText := true, laidKinds := [.data, .pinned], laidTests := true, laidLooks := .later }
def FnTokensUptoCardSaid : Prop := Claim7.holds Tryd.pinned (.plain (OpenSpec.upto fnTokensSpec)) fnTokensUptoCard

/-- THE SECOND FORM's CARD OF 'laws.FnNumText'. -/
def fnNumTextUptoCard : Claim7 := { stood := { row := fnNumTextUptoRow, standIns := [], harness := (true, "9940a1c9eb11a0f4bdbbd0bec7accb76b16b326dc2a422efa21d3231e7e77e8c"), looks := false }, kinds := [], alts := [], laidByText := true, laidKinds := [.data, .data, .data, .data, .pinned], laidTests := true, laidLooks := .later }
def FnNumTextUptoCardSaid : Prop := Claim7.holds Tryd.pinned (.plain (OpenSpec.upto fnNumTextSpec)) fnNumTextUptoCard

/-- THE SECOND FORM's CARD OF 'laws.FnExactCondTrue'. -/
def fnExactCondTrueUptoCard : Claim7 := { stood := { row := fnExactCondTrueUptoRow, standIns := [], harness := (true, "9940a1c9eb11a0f4bdbbd0bec7accb76b16b326dc2a422efa21d3231e7e77e8c"), looks := false }, kinds := [], alts := [], laidByText := true, laidKinds := [.data, .data, .data, .data, .pinned], laidTests := true, laidLooks := .later }
def FnExactCondTrueUptoCardSaid : Prop := Claim7.holds Tryd.pinned (.plain (OpenSpec.upto fnExactCondTrueSpec)) fnExactCondTrueUptoCard

/-- THE SECOND FORM's CARD OF 'laws.FnOrderTotal'. -/
def fnOrderTotalUptoCard : Claim7 := { stood := { row := fnOrderTotalUptoRow, standIns := [], harness := (true, "9940a1c9eb11a0f4bdbbd0bec7accb76b16b326dc2a422efa21d3231e7e77e8c"), looks := false }, kinds := [], alts := [], laidByText := true, laidKinds := [.data, .data, .data, .data, .pinned], laidTests := true, laidLooks := .later }
def FnOrderTotalUptoCardSaid : Prop := Claim7.holds Tryd.pinned (.plain (OpenSpec.upto fnOrderTotalSpec)) fnOrderTotalUptoCard
end Rows
end Go.Proofs.YtfimopcklknekaaDoor
