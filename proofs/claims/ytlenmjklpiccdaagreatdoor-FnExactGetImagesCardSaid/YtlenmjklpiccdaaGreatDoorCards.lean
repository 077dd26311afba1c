/-
  DERIVED. GIVEN WITH THE SEED: THE CARDS: each row of YtlenmjklpiccdaaGreatDoorRows.lean that lists a variable, with what it lists TIED to the program's text (the seventh form; the later family's looks); each row that meets fmt, with fmt's text TOLD by the authors' own Lean function (tested against real Go, not proved from fmt's source: count such statements apart). THE CARD IS WHAT COUNTS. Prove the row's statement (the work); the ties are given (YtlenmjklpiccdaaGreatDoorTie.lean); close each card by the builder's one call (the guide's Derived/Test/ToyasCard.lean, 'card_holds'). Laid BY PROGRAM, IN A SANDBOX (cutbox-door.mjs). By AI agents, Wed Nov 11 2026. No macro, syntax, notation, axiom, sorry.
-/
import Derived.Test.YtlenmjklpiccdaaGreatDoorRows
import GoSem.ClaimSeven
namespace Go.Proofs.YtlenmjklpiccdaaGreatDoor
namespace Rows

/-- THE TIED CARD OF 'laws.FnExactGetImages'. -/
def fnExactGetImagesCard : Claim7 := { stood := { row := fnExactGetImagesRow, standIns := [], harness := (true, "02346cd961648ab0bb9ccfa0e47c1135ce83174f9f4fadc64d0d9f25043f10c6"), looks := false }, kinds := [], alts := [], laidByText := true, laidKinds := [.data, .data, .data, .data, .pinned], laidTests := true, laidLooks := .later }
def FnExactGetImagesCardSaid : Prop := Claim7.holds Tryz.pinned (.plain (OpenSpec.ofChange fnExactGetImagesSpec)) fnExactGetImagesCard

/-- THE SECOND FORM's CARD OF 'laws.FnExactGetImages'. -/
def fnExactGetImagesUptoCard : Claim7 := { stood := { row := fnExactGetImagesUptoRow, standIns := [], harness := (true, "02346cd961648ab0bb9ccfa0e47c1135ce83174f9f4fadc64d0d9f25043f10c6"), looks := false }, kinds := [], alts := [], laidByText := true, laidKinds := [.data, .data, .data, .data, .pinned], laidTests := true, laidLooks := .later }
def FnExactGetImagesUptoCardSaid : Prop := Claim7.holds Tryz.pinned (.plain (OpenSpec.upto fnExactGetImagesSpec)) fnExactGetImagesUptoCard
end Rows
end Go.Proofs.YtlenmjklpiccdaaGreatDoor
