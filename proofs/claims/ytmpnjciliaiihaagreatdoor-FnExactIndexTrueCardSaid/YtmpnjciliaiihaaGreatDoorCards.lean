/-
  DERIVED. GIVEN WITH THE SEED: THE CARDS: each row of YtmpnjciliaiihaaGreatDoorRows.lean that lists a variable, with what it lists TIED to the program's text (the seventh form; the later family's looks); each row that meets fmt, with fmt's text TOLD by the authors' own Lean function (tested against real Go, not proved from fmt's source: count such statements apart). THE CARD IS WHAT COUNTS. Prove the row's statement (the work); the ties are given (YtmpnjciliaiihaaGreatDoorTie.lean); close each card by the builder's one call (the guide's Derived/Test/ToyasCard.lean, 'card_holds'). Laid BY PROGRAM, IN A SANDBOX (cutbox-door.mjs). By AI agents, Wed Nov 11 2026. No macro, syntax, notation, axiom, sorry.
-/
import Derived.Test.YtmpnjciliaiihaaGreatDoorRows
import GoSem.ClaimSeven
namespace Go.Proofs.YtmpnjciliaiihaaGreatDoor
namespace Rows

/-- THE TIED CARD OF 'laws.FnExactIndexTrue'. -/
def fnExactIndexTrueCard : Claim7 := { stood := { row := fnExactIndexTrueRow, standIns := [], harness := (true, "ad12fbffe8c10acf37785fe4d91e496b7b95199e841f67fe1711996adb5ff4c5"), looks := false }, kinds := [], alts := [], laidByText := true, laidKinds := [.data, .data, .data, .data, .pinned], laidTests := true, laidLooks := .later }
def FnExactIndexTrueCardSaid : Prop := Claim7.holds Tryz.pinned (.plain (OpenSpec.ofChange fnExactIndexTrueSpec)) fnExactIndexTrueCard

/-- THE SECOND FORM's CARD OF 'laws.FnExactIndexTrue'. -/
def fnExactIndexTrueUptoCard : Claim7 := { stood := { row := fnExactIndexTrueUptoRow, standIns := [], harness := (true, "ad12fbffe8c10acf37785fe4d91e496b7b95199e841f67fe1711996adb5ff4c5"), looks := false }, kinds := [], alts := [], laidByText := true, laidKinds := [.data, .data, .data, .data, .pinned], laidTests := true, laidLooks := .later }
def FnExactIndexTrueUptoCardSaid : Prop := Claim7.holds Tryz.pinned (.plain (OpenSpec.upto fnExactIndexTrueSpec)) fnExactIndexTrueUptoCard
end Rows
end Go.Proofs.YtmpnjciliaiihaaGreatDoor
