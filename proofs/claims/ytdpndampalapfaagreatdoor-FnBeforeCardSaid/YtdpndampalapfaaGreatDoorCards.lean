/-
  DERIVED. GIVEN WITH THE SEED: THE CARDS: each row of YtdpndampalapfaaGreatDoorRows.lean that lists a variable, with what it lists TIED to the program's text (the seventh form; the later family's looks); each row that meets fmt, with fmt's text TOLD by the authors' own Lean function (tested against real Go, not proved from fmt's source: count such statements apart). THE CARD IS WHAT COUNTS. Prove the row's statement (the work); the ties are given (YtdpndampalapfaaGreatDoorTie.lean); close each card by the builder's one call (the guide's Derived/Test/ToyasCard.lean, 'card_holds'). Laid BY PROGRAM, IN A SANDBOX (cutbox-door.mjs). By AI agents, Wed Nov 11 2026. No macro, syntax, notation, axiom, sorry.
-/
import Derived.Test.YtdpndampalapfaaGreatDoorRows
import GoSem.ClaimSeven
namespace Go.Proofs.YtdpndampalapfaaGreatDoor
namespace Rows

/-- THE TIED CARD OF 'laws.FnMerge'. -/
def fnMergeCard : Claim7 := { stood := { row := fnMergeRow, standIns := [], harness := (true, "18bea14840f8d3b3805b35874fe36a1b26aa7d1598c3b951c94fe7ae99c60671"), looks := true }, kinds := [], alts := [], laidByText := true, laidKinds := [.data, .data, .data, .data, .pinned], laidTests := true, laidLooks := .later }
def FnMergeCardSaid : Prop := Claim7.holds Tryz.pinned (.plain (OpenSpec.ofChange fnMergeSpec)) fnMergeCard

/-- THE TIED CARD OF 'laws.FnBefore'. -/
def fnBeforeCard : Claim7 := { stood := { row := fnBeforeRow, standIns := [], harness := (true, "18bea14840f8d3b3805b35874fe36a1b26aa7d1598c3b951c94fe7ae99c60671"), looks := true }, kinds := [], alts := [], laidByText := true, laidKinds := [.data, .data, .data, .data, .pinned], laidTests := true, laidLooks := .later }
def FnBeforeCardSaid : Prop := Claim7.holds Tryz.pinned (.plain (OpenSpec.ofChange fnBeforeSpec)) fnBeforeCard

/-- THE TIED CARD OF 'laws.FnExactParseRef'. -/
def fnExactParseRefCard : Claim7 := { stood := { row := fnExactParseRefRow, standIns := [], harness := (true, "18bea14840f8d3b3805b35874fe36a1b26aa7d1598c3b951c94fe7ae99c60671"), looks := true }, kinds := [], alts := [], laidByText := true, laidKinds := [.data, .data, .data, .data, .pinned], laidTests := true, laidLooks := .later }
def FnExactParseRefCardSaid : Prop := Claim7.holds Tryz.pinned (.plain (OpenSpec.ofChange fnExactParseRefSpec)) fnExactParseRefCard

/-- THE TIED CARD OF 'laws.FnLocksFair'. -/
def fnLocksFairCard : Claim7 := { stood := { row := fnLocksFairRow, standIns := [], harness := (true, "18bea14840f8d3b3805b35874fe36a1b26aa7d1598c3b951c94fe7ae99c60671"), looks := true }, kinds := [], alts := [], laidByText := true, laidKinds := [.data, .data, .data, .data, .pinned], laidTests := true, laidLooks := .later }
def FnLocksFairCardSaid : Prop := Claim7.holds Tryz.pinned (.plain (OpenSpec.ofChange fnLocksFairSpec)) fnLocksFairCard

/-- THE TIED CARD OF 'laws.FnLocksApart'. -/
def fnLocksApartCard : Claim7 := { stood := { row := fnLocksApartRow, standIns := [], harness := (true, "18bea14840f8d3b3805b35874fe36a1b26aa7d1598c3b951c94fe7ae99c60671"), looks := true }, kinds := [], alts := [], laidByText := true, laidKinds := [.data, .data, .data, .data, .pinned], laidTests := true, laidLooks := .later }
def FnLocksApartCardSaid : Prop := Claim7.holds Tryz.pinned (.plain (OpenSpec.ofChange fnLocksApartSpec)) fnLocksApartCard

/-- THE TIED CARD OF 'laws.FnQueryText'. -/
def fnQueryTextCard : Claim7 := { stood := { row := fnQueryTextRow, standIns := [], harness := (true, "18bea14840f8d3b3805b35874fe36a1b26aa7d1598c3b951c94fe7ae99c60671"), looks := true }, kinds := [], alts := [], laidByText := true, laidKinds := [.data, .data, .data, .data, .sentinel, .sentinel, .pinned], laidTests := true, laidLooks := .later }
def FnQueryTextCardSaid : Prop := Claim7.holds Tryz.pinned (.plain (OpenSpec.ofChange fnQueryTextSpec)) fnQueryTextCard

/-- THE TIED CARD OF 'laws.FnExactParseQuery'. -/
def fnExactParseQueryCard : Claim7 := { stood := { row := fnExactParseQueryRow, standIns := [], harness := (true, "18bea14840f8d3b3805b35874fe36a1b26aa7d1598c3b951c94fe7ae99c60671"), looks := true }, kinds := [], alts := [], laidByText := true, laidKinds := [.data, .data, .data, .data, .sentinel, .sentinel, .pinned], laidTests := true, laidLooks := .later }
def FnExactParseQueryCardSaid : Prop := Claim7.holds Tryz.pinned (.plain (OpenSpec.ofChange fnExactParseQuerySpec)) fnExactParseQueryCard

/-- THE TIED CARD OF 'laws.FnPatternPrint'. -/
def fnPatternPrintCard : Claim7 := { stood := { row := fnPatternPrintRow, standIns := [], harness := (true, "18bea14840f8d3b3805b35874fe36a1b26aa7d1598c3b951c94fe7ae99c60671"), looks := true }, kinds := [], alts := [], laidByText := true, laidKinds := [.data, .data, .data, .data, .sentinel, .sentinel, .pinned], laidTests := true, laidLooks := .later }
def FnPatternPrintCardSaid : Prop := Claim7.holds Tryz.pinned (.plain (OpenSpec.ofChange fnPatternPrintSpec)) fnPatternPrintCard

/-- THE TIED CARD OF 'laws.FnExactParsePattern'. -/
def fnExactParsePatternCard : Claim7 := { stood := { row := fnExactParsePatternRow, standIns := [], harness := (true, "18bea14840f8d3b3805b35874fe36a1b26aa7d1598c3b951c94fe7ae99c60671"), looks := true }, kinds := [], alts := [], laidByText := true, laidKinds := [.data, .data, .data, .data, .sentinel, .sentinel, .pinned], laidTests := true, laidLooks := .later }
def FnExactParsePatternCardSaid : Prop := Claim7.holds Tryz.pinned (.plain (OpenSpec.ofChange fnExactParsePatternSpec)) fnExactParsePatternCard

/-- THE TIED CARD OF 'laws.FnExactPatternMatches'. -/
def fnExactPatternMatchesCard : Claim7 := { stood := { row := fnExactPatternMatchesRow, standIns := [], harness := (true, "18bea14840f8d3b3805b35874fe36a1b26aa7d1598c3b951c94fe7ae99c60671"), looks := true }, kinds := [], alts := [], laidByText := true, laidKinds := [.data, .data, .data, .data, .sentinel, .sentinel, .pinned], laidTests := true, laidLooks := .later }
def FnExactPatternMatchesCardSaid : Prop := Claim7.holds Tryz.pinned (.plain (OpenSpec.ofChange fnExactPatternMatchesSpec)) fnExactPatternMatchesCard

/-- THE SECOND FORM's CARD OF 'laws.FnMerge'. -/
def fnMergeUptoCard : Claim7 := { stood := { row := fnMergeUptoRow, standIns := [], harness := (true, "18bea14840f8d3b3805b35874fe36a1b26aa7d1598c3b951c94fe7ae99c60671"), looks := true }, kinds := [], alts := [], laidByText := true, laidKinds := [.data, .data, .data, .data, .pinned], laidTests := true, laidLooks := .later }
def FnMergeUptoCardSaid : Prop := Claim7.holds Tryz.pinned (.plain (OpenSpec.upto fnMergeSpec)) fnMergeUptoCard

/-- THE SECOND FORM's CARD OF 'laws.FnBefore'. -/
def fnBeforeUptoCard : Claim7 := { stood := { row := fnBeforeUptoRow, standIns := [], harness := (true, "18bea14840f8d3b3805b35874fe36a1b26aa7d1598c3b951c94fe7ae99c60671"), looks := true }, kinds := [], alts := [], laidByText := true, laidKinds := [.data, .data, .data, .data, .pinned], laidTests := true, laidLooks := .later }
def FnBeforeUptoCardSaid : Prop := Claim7.holds Tryz.pinned (.plain (OpenSpec.upto fnBeforeSpec)) fnBeforeUptoCard

/-- THE SECOND FORM's CARD OF 'laws.FnExactParseRef'. -/
def fnExactParseRefUptoCard : Claim7 := { stood := { row := fnExactParseRefUptoRow, standIns := [], harness := (true, "18bea14840f8d3b3805b35874fe36a1b26aa7d1598c3b951c94fe7ae99c60671"), looks := true }, kinds := [], alts := [], laidByText := true, laidKinds := [.data, .data, .data, .data, .pinned], laidTests := true, laidLooks := .later }
def FnExactParseRefUptoCardSaid : Prop := Claim7.holds Tryz.pinned (.plain (OpenSpec.upto fnExactParseRefSpec)) fnExactParseRefUptoCard

/-- THE SECOND FORM's CARD OF 'laws.FnLocksFair'. -/
def fnLocksFairUptoCard : Claim7 := { stood := { row := fnLocksFairUptoRow, standIns := [], harness := (true, "18bea14840f8d3b3805b35874fe36a1b26aa7d1598c3b951c94fe7ae99c60671"), looks := true }, kinds := [], alts := [], laidByText := true, laidKinds := [.data, .data, .data, .data, .pinned], laidTests := true, laidLooks := .later }
def FnLocksFairUptoCardSaid : Prop := Claim7.holds Tryz.pinned (.plain (OpenSpec.upto fnLocksFairSpec)) fnLocksFairUptoCard

/-- THE SECOND FORM's CARD OF 'laws.FnLocksApart'. -/
def fnLocksApartUptoCard : Claim7 := { stood := { row := fnLocksApartUptoRow, standIns := [], harness := (true, "18bea14840f8d3b3805b35874fe36a1b26aa7d1598c3b951c94fe7ae99c60671"), looks := true }, kinds := [], alts := [], laidByText := true, laidKinds := [.data, .data, .data, .data, .pinned], laidTests := true, laidLooks := .later }
def FnLocksApartUptoCardSaid : Prop := Claim7.holds Tryz.pinned (.plain (OpenSpec.upto fnLocksApartSpec)) fnLocksApartUptoCard

/-- THE SECOND FORM's CARD OF 'laws.FnQueryText'. -/
def fnQueryTextUptoCard : Claim7 := { stood := { row := fnQueryTextUptoRow, standIns := [], harness := (true, "18bea14840f8d3b3805b35874fe36a1b26aa7d1598c3b951c94fe7ae99c60671"), looks := true }, kinds := [], alts := [], laidByText := true, laidKinds := [.data, .data, .data, .data, .sentinel, .sentinel, .pinned], laidTests := true, laidLooks := .later }
def FnQueryTextUptoCardSaid : Prop := Claim7.holds Tryz.pinned (.plain (OpenSpec.upto fnQueryTextSpec)) fnQueryTextUptoCard

/-- THE SECOND FORM's CARD OF 'laws.FnExactParseQuery'. -/
def fnExactParseQueryUptoCard : Claim7 := { stood := { row := fnExactParseQueryUptoRow, standIns := [], harness := (true, "18bea14840f8d3b3805b35874fe36a1b26aa7d1598c3b951c94fe7ae99c60671"), looks := true }, kinds := [], alts := [], laidByText := true, laidKinds := [.data, .data, .data, .data, .sentinel, .sentinel, .pinned], laidTests := true, laidLooks := .later }
def FnExactParseQueryUptoCardSaid : Prop := Claim7.holds Tryz.pinned (.plain (OpenSpec.upto fnExactParseQuerySpec)) fnExactParseQueryUptoCard

/-- THE SECOND FORM's CARD OF 'laws.FnPatternPrint'. -/
def fnPatternPrintUptoCard : Claim7 := { stood := { row := fnPatternPrintUptoRow, standIns := [], harness := (true, "18bea14840f8d3b3805b35874fe36a1b26aa7d1598c3b951c94fe7ae99c60671"), looks := true }, kinds := [], alts := [], laidByText := true, laidKinds := [.data, .data, .data, .data, .sentinel, .sentinel, .pinned], laidTests := true, laidLooks := .later }
def FnPatternPrintUptoCardSaid : Prop := Claim7.holds Tryz.pinned (.plain (OpenSpec.upto fnPatternPrintSpec)) fnPatternPrintUptoCard

/-- THE SECOND FORM's CARD OF 'laws.FnExactParsePattern'. -/
def fnExactParsePatternUptoCard : Claim7 := { stood := { row := fnExactParsePatternUptoRow, standIns := [], harness := (true, "18bea14840f8d3b3805b35874fe36a1b26aa7d1598c3b951c94fe7ae99c60671"), looks := true }, kinds := [], alts := [], laidByText := true, laidKinds := [.data, .data, .data, .data, .sentinel, .sentinel, .pinned], laidTests := true, laidLooks := .later }
def FnExactParsePatternUptoCardSaid : Prop := Claim7.holds Tryz.pinned (.plain (OpenSpec.upto fnExactParsePatternSpec)) fnExactParsePatternUptoCard

/-- THE SECOND FORM's CARD OF 'laws.FnExactPatternMatches'. -/
def fnExactPatternMatchesUptoCard : Claim7 := { stood := { row := fnExactPatternMatchesUptoRow, standIns := [], harness := (true, "18bea14840f8d3b3805b35874fe36a1b26aa7d1598c3b951c94fe7ae99c60671"), looks := true }, kinds := [], alts := [], laidByText := true, laidKinds := [.data, .data, .data, .data, .sentinel, .sentinel, .pinned], laidTests := true, laidLooks := .later }
def FnExactPatternMatchesUptoCardSaid : Prop := Claim7.holds Tryz.pinned (.plain (OpenSpec.upto fnExactPatternMatchesSpec)) fnExactPatternMatchesUptoCard
end Rows
end Go.Proofs.YtdpndampalapfaaGreatDoor
