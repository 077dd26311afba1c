/-
  DERIVED. GIVEN WITH THE SEED: THE CARDS: each row of YtlchngidmfficaaGreatDoorRows.lean that lists a variable, with what it lists TIED to the program's text (the seventh form; the later family's looks); each row that meets fmt, with fmt's text TOLD by the authors' own Lean function (tested against real Go, not proved from fmt's source: count such statements apart). THE CARD IS WHAT COUNTS. Prove the row's statement (the work); the ties are given (YtlchngidmfficaaGreatDoorTie.lean); close each card by the builder's one call (the guide's Derived/Test/ToyasCard.lean, 'card_holds'). Laid BY PROGRAM, IN A SANDBOX (cutbox-door.mjs). By AI agents, Wed Nov 11 2026. No macro, syntax, notation, axiom, sorry.
-/
import Derived.Test.YtlchngidmfficaaGreatDoorRows
import GoSem.ClaimSeven
namespace Go.Proofs.YtlchngidmfficaaGreatDoor
namespace Rows

/-- THE TIED CARD OF 'laws.FnAfter'. -/
def fnAfterCard : Claim7 := { stood := { row := fnAfterRow, standIns := [], harness := (true, "0f1765d42429297343ac27ca55bed74e6e4caa5dc4a12e70783d53ed9818aad7"), looks := false }, kinds := [], alts := [], laidByText := true, laidKinds := [.data, .data, .data, .data, .pinned], laidTests := true, laidLooks := .later }
def FnAfterCardSaid : Prop := Claim7.holds Tryz.pinned (.plain (OpenSpec.ofChange fnAfterSpec)) fnAfterCard

/-- THE TIED CARD OF 'laws.FnExactTakeParcel'. -/
def fnExactTakeParcelCard : Claim7 := { stood := { row := fnExactTakeParcelRow, standIns := [], harness := (true, "0f1765d42429297343ac27ca55bed74e6e4caa5dc4a12e70783d53ed9818aad7"), looks := false }, kinds := [], alts := [], laidByText := true, laidKinds := [.data, .data, .data, .data, .pinned], laidTests := true, laidLooks := .later }
def FnExactTakeParcelCardSaid : Prop := Claim7.holds Tryz.pinned (.plain (OpenSpec.ofChange fnExactTakeParcelSpec)) fnExactTakeParcelCard

/-- THE SECOND FORM's CARD OF 'laws.FnAfter'. -/
def fnAfterUptoCard : Claim7 := { stood := { row := fnAfterUptoRow, standIns := [], harness := (true, "0f1765d42429297343ac27ca55bed74e6e4caa5dc4a12e70783d53ed9818aad7"), looks := false }, kinds := [], alts := [], laidByText := true, laidKinds := [.data, .data, .data, .data, .pinned], laidTests := true, laidLooks := .later }
def FnAfterUptoCardSaid : Prop := Claim7.holds Tryz.pinned (.plain (OpenSpec.upto fnAfterSpec)) fnAfterUptoCard

/-- THE SECOND FORM's CARD OF 'laws.FnExactTakeParcel'. -/
def fnExactTakeParcelUptoCard : Claim7 := { stood := { row := fnExactTakeParcelUptoRow, standIns := [], harness := (true, "0f1765d42429297343ac27ca55bed74e6e4caa5dc4a12e70783d53ed9818aad7"), looks := false }, kinds := [], alts := [], laidByText := true, laidKinds := [.data, .data, .data, .data, .pinned], laidTests := true, laidLooks := .later }
def FnExactTakeParcelUptoCardSaid : Prop := Claim7.holds Tryz.pinned (.plain (OpenSpec.upto fnExactTakeParcelSpec)) fnExactTakeParcelUptoCard
end Rows
end Go.Proofs.YtlchngidmfficaaGreatDoor
