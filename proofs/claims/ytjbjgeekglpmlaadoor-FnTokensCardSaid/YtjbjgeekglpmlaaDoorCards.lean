/-
  DERIVED. GIVEN WITH THE SEED: THE CARDS: each row of YtjbjgeekglpmlaaDoorRows.lean that lists a variable, with what it lists TIED to the program's text (the seventh form; the later family's looks); each row that meets fmt, with fmt's text TOLD by the authors' own Lean function (tested against real Go, not proved from fmt's source: count such statements apart). THE CARD IS WHAT COUNTS. Prove the row's statement (the work); the ties are given (YtjbjgeekglpmlaaDoorTie.lean); close each card by the builder's one call (the guide's Derived/Test/ToyasCard.lean, 'card_holds'). Laid BY PROGRAM, IN A SANDBOX (cutbox-door.mjs). By AI agents, Wed Nov 11 2026. No macro, syntax, notation, axiom, sorry.
-/
import Derived.Test.YtjbjgeekglpmlaaDoorRows
import GoSem.ClaimSeven
namespace Go.Proofs.YtjbjgeekglpmlaaDoor
namespace Rows

/-- THE TIED CARD OF 'laws.FnExactParsePlace'. -/
def fnExactParsePlaceCard : Claim7 := { stood := { row := fnExactParsePlaceRow, standIns := [], harness := (true, "cddf007f72a486f7f9921bde12786d2f0c159b76d90408af955bf55e996171f6"), looks := false }, kinds := [], alts := [], laidByText := true, laidKinds := [.data, .pinned], laidTests := true, laidLooks := .later }
def FnExactParsePlaceCardSaid : Prop := Claim7.holds Tryd.pinned (.plain (OpenSpec.ofChange fnExactParsePlaceSpec)) fnExactParsePlaceCard

/-- THE TIED CARD OF 'laws.FnTokens'. -/
def fnTokensCard : Claim7 := { stood := { row := fnTokensRow, standIns := [], harness := (true, "cddf007f72a486f7f9921bde12786d2f0c159b76d90408af955bf55e996171f6"), looks := false }, kinds := [], alts := [], laidByText := true, laidKinds := [.data, .pinned], laidTests := true, laidLooks := .later }
def FnTokensCardSaid : Prop := Claim7.holds Tryd.pinned (.plain (OpenSpec.ofChange fnTokensSpec)) fnTokensCard

/-- THE SECOND FORM's CARD OF 'laws.FnExactParsePlace'. -/
def fnExactParsePlaceUptoCard : Claim7 := { stood := { row := fnExactParsePlaceUptoRow, standIns := [], harness := (true, "cddf007f72a486f7f9921bde12786d2f0c159b76d90408af955bf55e996171f6"), looks := false }, kinds := [], alts := [], laidByText := true, laidKinds := [.data, .pinned], laidTests := true, laidLooks := .later }
def FnExactParsePlaceUptoCardSaid : Prop := Claim7.holds Tryd.pinned (.plain (OpenSpec.upto fnExactParsePlaceSpec)) fnExactParsePlaceUptoCard

/-- THE SECOND FORM's CARD OF 'laws.FnTokens'. -/
def fnTokensUptoCard : Claim7 := { stood := { row := fnTokensUptoRow, standIns := [], harness := (true, "cddf007f72a486f7f9921bde12786d2f0c159b76d90408af955bf55e996171f6"), looks := false }, kinds := [], alts := [], laidByText := true, laidKinds := [.data, .pinned], laidTests := true, laidLooks := .later }
def FnTokensUptoCardSaid : Prop := Claim7.holds Tryd.pinned (.plain (OpenSpec.upto fnTokensSpec)) fnTokensUptoCard
end Rows
end Go.Proofs.YtjbjgeekglpmlaaDoor
