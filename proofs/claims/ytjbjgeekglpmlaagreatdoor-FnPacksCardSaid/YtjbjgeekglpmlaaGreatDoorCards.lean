/-
  DERIVED. GIVEN WITH THE SEED: THE CARDS: each row of YtjbjgeekglpmlaaGreatDoorRows.lean that lists a variable, with what it lists TIED to the program's text (the seventh form; the later family's looks); each row that meets fmt, with fmt's text TOLD by the authors' own Lean function (tested against real Go, not proved from fmt's source: count such statements apart). THE CARD IS WHAT COUNTS. Prove the row's statement (the work); the ties are given (YtjbjgeekglpmlaaGreatDoorTie.lean); close each card by the builder's one call (the guide's Derived/Test/ToyasCard.lean, 'card_holds'). Laid BY PROGRAM, IN A SANDBOX (cutbox-door.mjs). By AI agents, Wed Nov 11 2026. No macro, syntax, notation, axiom, sorry.
-/
import Derived.Test.YtjbjgeekglpmlaaGreatDoorRows
import GoSem.ClaimSeven
namespace Go.Proofs.YtjbjgeekglpmlaaGreatDoor
namespace Rows

/-- THE TIED CARD OF 'laws.FnPacks'. -/
def fnPacksCard : Claim7 := { stood := { row := fnPacksRow, standIns := [], harness := (true, "0d39ae44b25b10adce64362b6638a6d02f1814d63383bac14b8347782a719ebb"), looks := false }, kinds := [], alts := [], laidByText := true, laidKinds := [.data, .pinned], laidTests := true, laidLooks := .later }
def FnPacksCardSaid : Prop := Claim7.holds Tryz.pinned (.plain (OpenSpec.ofChange fnPacksSpec)) fnPacksCard

/-- THE TIED CARD OF 'laws.FnOrderKeys'. -/
def fnOrderKeysCard : Claim7 := { stood := { row := fnOrderKeysRow, standIns := [], harness := (true, "0d39ae44b25b10adce64362b6638a6d02f1814d63383bac14b8347782a719ebb"), looks := false }, kinds := [], alts := [], laidByText := true, laidKinds := [.data, .data, .data, .data, .pinned], laidTests := true, laidLooks := .later }
def FnOrderKeysCardSaid : Prop := Claim7.holds Tryz.pinned (.plain (OpenSpec.ofChange fnOrderKeysSpec)) fnOrderKeysCard

/-- THE TIED CARD OF 'laws.FnCompress'. -/
def fnCompressCard : Claim7 := { stood := { row := fnCompressRow, standIns := [], harness := (true, "0d39ae44b25b10adce64362b6638a6d02f1814d63383bac14b8347782a719ebb"), looks := false }, kinds := [], alts := [], laidByText := true, laidKinds := [.data, .data, .data, .data, .pinned], laidTests := true, laidLooks := .later }
def FnCompressCardSaid : Prop := Claim7.holds Tryz.pinned (.plain (OpenSpec.ofChange fnCompressSpec)) fnCompressCard

/-- THE TIED CARD OF 'laws.FnTreeQuery'. -/
def fnTreeQueryCard : Claim7 := { stood := { row := fnTreeQueryRow, standIns := [], harness := (true, "0d39ae44b25b10adce64362b6638a6d02f1814d63383bac14b8347782a719ebb"), looks := false }, kinds := [], alts := [], laidByText := true, laidKinds := [.data, .data, .data, .data, .pinned], laidTests := true, laidLooks := .later }
def FnTreeQueryCardSaid : Prop := Claim7.holds Tryz.pinned (.plain (OpenSpec.ofChange fnTreeQuerySpec)) fnTreeQueryCard

/-- THE TIED CARD OF 'laws.FnTreeKill'. -/
def fnTreeKillCard : Claim7 := { stood := { row := fnTreeKillRow, standIns := [], harness := (true, "0d39ae44b25b10adce64362b6638a6d02f1814d63383bac14b8347782a719ebb"), looks := false }, kinds := [], alts := [], laidByText := true, laidKinds := [.data, .data, .data, .data, .pinned], laidTests := true, laidLooks := .later }
def FnTreeKillCardSaid : Prop := Claim7.holds Tryz.pinned (.plain (OpenSpec.ofChange fnTreeKillSpec)) fnTreeKillCard

/-- THE TIED CARD OF 'laws.FnTranslate'. -/
def fnTranslateCard : Claim7 := { stood := { row := fnTranslateRow, standIns := [], harness := (true, "0d39ae44b25b10adce64362b6638a6d02f1814d63383bac14b8347782a719ebb"), looks := false }, kinds := [], alts := [], laidByText := true, laidKinds := [.data, .data, .data, .data, .pinned], laidTests := true, laidLooks := .later }
def FnTranslateCardSaid : Prop := Claim7.holds Tryz.pinned (.plain (OpenSpec.ofChange fnTranslateSpec)) fnTranslateCard

/-- THE TIED CARD OF 'laws.FnTreePut'. -/
def fnTreePutCard : Claim7 := { stood := { row := fnTreePutRow, standIns := [], harness := (true, "0d39ae44b25b10adce64362b6638a6d02f1814d63383bac14b8347782a719ebb"), looks := false }, kinds := [], alts := [], laidByText := true, laidKinds := [.data, .data, .data, .data, .pinned], laidTests := true, laidLooks := .later }
def FnTreePutCardSaid : Prop := Claim7.holds Tryz.pinned (.plain (OpenSpec.ofChange fnTreePutSpec)) fnTreePutCard

/-- THE SECOND FORM's CARD OF 'laws.FnPacks'. -/
def fnPacksUptoCard : Claim7 := { stood := { row := fnPacksUptoRow, standIns := [], harness := (true, "0d39ae44b25b10adce64362b6638a6d02f1814d63383bac14b8347782a719ebb"), looks := false }, kinds := [], alts := [], laidByText := true, laidKinds := [.data, .pinned], laidTests := true, laidLooks := .later }
def FnPacksUptoCardSaid : Prop := Claim7.holds Tryz.pinned (.plain (OpenSpec.upto fnPacksSpec)) fnPacksUptoCard

/-- THE SECOND FORM's CARD OF 'laws.FnOrderKeys'. -/
def fnOrderKeysUptoCard : Claim7 := { stood := { row := fnOrderKeysUptoRow, standIns := [], harness := (true, "0d39ae44b25b10adce64362b6638a6d02f1814d63383bac14b8347782a719ebb"), looks := false }, kinds := [], alts := [], laidByText := true, laidKinds := [.data, .data, .data, .data, .pinned], laidTests := true, laidLooks := .later }
def FnOrderKeysUptoCardSaid : Prop := Claim7.holds Tryz.pinned (.plain (OpenSpec.upto fnOrderKeysSpec)) fnOrderKeysUptoCard

/-- THE SECOND FORM's CARD OF 'laws.FnCompress'. -/
def fnCompressUptoCard : Claim7 := { stood := { row := fnCompressUptoRow, standIns := [], harness := (true, "0d39ae44b25b10adce64362b6638a6d02f1814d63383bac14b8347782a719ebb"), looks := false }, kinds := [], alts := [], laidByText := true, laidKinds := [.data, .data, .data, .data, .pinned], laidTests := true, laidLooks := .later }
def FnCompressUptoCardSaid : Prop := Claim7.holds Tryz.pinned (.plain (OpenSpec.upto fnCompressSpec)) fnCompressUptoCard

/-- THE SECOND FORM's CARD OF 'laws.FnTreeQuery'. -/
def fnTreeQueryUptoCard : Claim7 := { stood := { row := fnTreeQueryUptoRow, standIns := [], harness := (true, "0d39ae44b25b10adce64362b6638a6d02f1814d63383bac14b8347782a719ebb"), looks := false }, kinds := [], alts := [], laidByText := true, laidKinds := [.data, .data, .data, .data, .pinned], laidTests := true, laidLooks := .later }
def FnTreeQueryUptoCardSaid : Prop := Claim7.holds Tryz.pinned (.plain (OpenSpec.upto fnTreeQuerySpec)) fnTreeQueryUptoCard

/-- THE SECOND FORM's CARD OF 'laws.FnTreeKill'. -/
def fnTreeKillUptoCard : Claim7 := { stood := { row := fnTreeKillUptoRow, standIns := [], harness := (true, "0d39ae44b25b10adce64362b6638a6d02f1814d63383bac14b8347782a719ebb"), looks := false }, kinds := [], alts := [], laidByText := true, laidKinds := [.data, .data, .data, .data, .pinned], laidTests := true, laidLooks := .later }
def FnTreeKillUptoCardSaid : Prop := Claim7.holds Tryz.pinned (.plain (OpenSpec.upto fnTreeKillSpec)) fnTreeKillUptoCard

/-- THE SECOND FORM's CARD OF 'laws.FnTranslate'. -/
def fnTranslateUptoCard : Claim7 := { stood := { row := fnTranslateUptoRow, standIns := [], harness := (true, "0d39ae44b25b10adce64362b6638a6d02f1814d63383bac14b8347782a719ebb"), looks := false }, kinds := [], alts := [], laidByText := true, laidKinds := [.data, .data, .data, .data, .pinned], laidTests := true, laidLooks := .later }
def FnTranslateUptoCardSaid : Prop := Claim7.holds Tryz.pinned (.plain (OpenSpec.upto fnTranslateSpec)) fnTranslateUptoCard

/-- THE SECOND FORM's CARD OF 'laws.FnTreePut'. -/
def fnTreePutUptoCard : Claim7 := { stood := { row := fnTreePutUptoRow, standIns := [], harness := (true, "0d39ae44b25b10adce64362b6638a6d02f1814d63383bac14b8347782a719ebb"), looks := false }, kinds := [], alts := [], laidByText := true, laidKinds := [.data, .data, .data, .data, .pinned], laidTests := true, laidLooks := .later }
def FnTreePutUptoCardSaid : Prop := Claim7.holds Tryz.pinned (.plain (OpenSpec.upto fnTreePutSpec)) fnTreePutUptoCard
end Rows
end Go.Proofs.YtjbjgeekglpmlaaGreatDoor
