/-
  DERIVED. GIVEN WITH THE SEED: THE CARDS: each row of YtfimopcklknekaaGreatDoorRows.lean that lists a variable, with what it lists TIED to the program's text (the seventh form; the later family's looks); each row that meets fmt, with fmt's text TOLD by the authors' own Lean function (tested against real Go, not proved from fmt's source: count such statements apart). THE CARD IS WHAT COUNTS. Prove the row's statement (the work); the ties are given (YtfimopcklknekaaGreatDoorTie.lean); close each card by the builder's one call (the guide's Derived/Test/ToyasCard.lean, 'card_holds'). Laid BY PROGRAM, IN A SANDBOX (cutbox-door.mjs). By AI agents, Wed Nov 11 2026. No macro, syntax, notation, axiom, sorry.
-/
import Derived.Test.YtfimopcklknekaaGreatDoorRows
import GoSem.ClaimSeven
namespace Go.Proofs.YtfimopcklknekaaGreatDoor
namespace Rows

/-- THE TIED CARD OF 'laws.FnExactQueryText'. -/
def fnExactQueryTextCard : Claim7 := { stood := { row := fnExactQueryTextRow, standIns := [], harness := (true, "c8a3d0484098fc179b348326404ba90cdfa0bfc6fdee8c8e5c98ffa78bab7952"), looks := false }, kinds := [], alts := [], laidByText := true, laidKinds := [.data, .data, .data], laidTests := true, laidLooks := .later }
def FnExactQueryTextCardSaid : Prop := Claim7.holds Tryz.pinned (.plain (OpenSpec.ofChange fnExactQueryTextSpec)) fnExactQueryTextCard

/-- THE SECOND FORM's CARD OF 'laws.FnExactQueryText'. -/
def fnExactQueryTextUptoCard : Claim7 := { stood := { row := fnExactQueryTextUptoRow, standIns := [], harness := (true, "c8a3d0484098fc179b348326404ba90cdfa0bfc6fdee8c8e5c98ffa78bab7952"), looks := false }, kinds := [], alts := [], laidByText := true, laidKinds := [.data, .data, .data], laidTests := true, laidLooks := .later }
def FnExactQueryTextUptoCardSaid : Prop := Claim7.holds Tryz.pinned (.plain (OpenSpec.upto fnExactQueryTextSpec)) fnExactQueryTextUptoCard
end Rows
end Go.Proofs.YtfimopcklknekaaGreatDoor
