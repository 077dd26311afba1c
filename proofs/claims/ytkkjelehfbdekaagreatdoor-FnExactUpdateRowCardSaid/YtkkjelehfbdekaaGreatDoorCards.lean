/-
  DERIVED. GIVEN WITH THE SEED: THE CARDS: each row of YtkkjelehfbdekaaGreatDoorRows.lean that lists a variable, with what it lists TIED to the program's text (the seventh form; the later family's looks); each row that meets fmt, with fmt's text TOLD by the authors' own Lean function (tested against real Go, not proved from fmt's source: count such statements apart). THE CARD IS WHAT COUNTS. Prove the row's statement (the work); the ties are given (YtkkjelehfbdekaaGreatDoorTie.lean); close each card by the builder's one call (the guide's Derived/Test/ToyasCard.lean, 'card_holds'). Laid BY PROGRAM, IN A SANDBOX (cutbox-door.mjs). By AI agents, Wed Nov 11 2026. No macro, syntax, notation, axiom, sorry.
-/
import Derived.Test.YtkkjelehfbdekaaGreatDoorRows
import GoSem.ClaimSeven
namespace Go.Proofs.YtkkjelehfbdekaaGreatDoor
namespace Rows

/-- THE TIED CARD OF 'laws.FnExactUpdateRow'. -/
def fnExactUpdateRowCard : Claim7 := { stood := { row := fnExactUpdateRowRow, standIns := [], harness := (true, "55c3f85c7cfb51402e8aee3966400624f13e5b69d94e7769b86d107fde9c3b3a"), looks := false }, kinds := [], alts := [], laidByText := true, laidKinds := [.data, .data, .data, .data, .pinned], laidTests := true, laidLooks := .later }
def FnExactUpdateRowCardSaid : Prop := Claim7.holds Tryz.pinned (.plain (OpenSpec.ofChange fnExactUpdateRowSpec)) fnExactUpdateRowCard

/-- THE TIED CARD OF 'laws.FnExactIndexTrue'. -/
def fnExactIndexTrueCard : Claim7 := { stood := { row := fnExactIndexTrueRow, standIns := [], harness := (true, "55c3f85c7cfb51402e8aee3966400624f13e5b69d94e7769b86d107fde9c3b3a"), looks := false }, kinds := [], alts := [], laidByText := true, laidKinds := [.data, .data, .data, .data, .pinned], laidTests := true, laidLooks := .later }
def FnExactIndexTrueCardSaid : Prop := Claim7.holds Tryz.pinned (.plain (OpenSpec.ofChange fnExactIndexTrueSpec)) fnExactIndexTrueCard

/-- THE SECOND FORM's CARD OF 'laws.FnExactUpdateRow'. -/
def fnExactUpdateRowUptoCard : Claim7 := { stood := { row := fnExactUpdateRowUptoRow, standIns := [], harness := (true, "55c3f85c7cfb51402e8aee3966400624f13e5b69d94e7769b86d107fde9c3b3a"), looks := false }, kinds := [], alts := [], laidByText := true, laidKinds := [.data, .data, .data, .data, .pinned], laidTests := true, laidLooks := .later }
def FnExactUpdateRowUptoCardSaid : Prop := Claim7.holds Tryz.pinned (.plain (OpenSpec.upto fnExactUpdateRowSpec)) fnExactUpdateRowUptoCard

/-- THE SECOND FORM's CARD OF 'laws.FnExactIndexTrue'. -/
def fnExactIndexTrueUptoCard : Claim7 := { stood := { row := fnExactIndexTrueUptoRow, standIns := [], harness := (true, "55c3f85c7cfb51402e8aee3966400624f13e5b69d94e7769b86d107fde9c3b3a"), looks := false }, kinds := [], alts := [], laidByText := true, laidKinds := [.data, .data, .data, .data, .pinned], laidTests := true, laidLooks := .later }
def FnExactIndexTrueUptoCardSaid : Prop := Claim7.holds Tryz.pinned (.plain (OpenSpec.upto fnExactIndexTrueSpec)) fnExactIndexTrueUptoCard
end Rows
end Go.Proofs.YtkkjelehfbdekaaGreatDoor
