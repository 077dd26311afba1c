/-
  DERIVED. GIVEN WITH THE SEED: THE CARDS: each row of YtbknfkdjhajimaaGreatDoorRows.lean that lists a variable, with what it lists TIED to the program's text (the seventh form; the later family's looks); each row that meets fmt, with fmt's text TOLD by the authors' own Lean function (tested against real Go, not proved from fmt's source: count such statements apart). THE CARD IS WHAT COUNTS. Prove the row's statement (the work); the ties are given (YtbknfkdjhajimaaGreatDoorTie.lean); close each card by the builder's one call (the guide's Derived/Test/ToyasCard.lean, 'card_holds'). Laid BY PROGRAM, IN A SANDBOX (cutbox-door.mjs). By AI agents, Wed Nov 11 2026. No macro, syntax, notation, axiom, sorry.
-/
import Derived.Test.YtbknfkdjhajimaaGreatDoorRows
import GoSem.ClaimSeven
namespace Go.Proofs.YtbknfkdjhajimaaGreatDoor
namespace Rows

/-- THE TIED CARD OF 'laws.FnMerge'. -/
def fnMergeCard : Claim7 := { stood := { row := fnMergeRow, standIns := [], harness := (true, "a7a4aa5fec932e98a9050cbc04905e51449a7ec8cbd77afd7d66916da2ff6249"), looks := false }, kinds := [], alts := [], laidByText := true, laidKinds := [.data, .data, .data, .data, .pinned], laidTests := true, laidLooks := .later }
def FnMergeCardSaid : Prop := Claim7.holds Tryz.pinned (.plain (OpenSpec.ofChange fnMergeSpec)) fnMergeCard

/-- THE TIED CARD OF 'laws.FnAfter'. -/
def fnAfterCard : Claim7 := { stood := { row := fnAfterRow, standIns := [], harness := (true, "a7a4aa5fec932e98a9050cbc04905e51449a7ec8cbd77afd7d66916da2ff6249"), looks := false }, kinds := [], alts := [], laidByText := true, laidKinds := [.data, .data, .data, .data, .pinned], laidTests := true, laidLooks := .later }
def FnAfterCardSaid : Prop := Claim7.holds Tryz.pinned (.plain (OpenSpec.ofChange fnAfterSpec)) fnAfterCard

/-- THE SECOND FORM's CARD OF 'laws.FnMerge'. -/
def fnMergeUptoCard : Claim7 := { stood := { row := fnMergeUptoRow, standIns := [], harness := (true, "a7a4aa5fec932e98a9050cbc04905e51449a7ec8cbd77afd7d66916da2ff6249"), looks := false }, kinds := [], alts := [], laidByText := true, laidKinds := [.data, .data, .data, .data, .pinned], laidTests := true, laidLooks := .later }
def FnMergeUptoCardSaid : Prop := Claim7.holds Tryz.pinned (.plain (OpenSpec.upto fnMergeSpec)) fnMergeUptoCard

/-- THE SECOND FORM's CARD OF 'laws.FnAfter'. -/
def fnAfterUptoCard : Claim7 := { stood := { row := fnAfterUptoRow, standIns := [], harness := (true, "a7a4aa5fec932e98a9050cbc04905e51449a7ec8cbd77afd7d66916da2ff6249"), looks := false }, kinds := [], alts := [], laidByText := true, laidKinds := [.data, .data, .data, .data, .pinned], laidTests := true, laidLooks := .later }
def FnAfterUptoCardSaid : Prop := Claim7.holds Tryz.pinned (.plain (OpenSpec.upto fnAfterSpec)) fnAfterUptoCard
end Rows
end Go.Proofs.YtbknfkdjhajimaaGreatDoor
