/-
  DERIVED. GIVEN WITH THE SEED: THE CARDS: each row of YtbeebeamdjbkmaaGreatDoorRows.lean that lists a variable, with what it lists TIED to the program's text (the seventh form; the later family's looks); each row that meets fmt, with fmt's text TOLD by the authors' own Lean function (tested against real Go, not proved from fmt's source: count such statements apart). THE CARD IS WHAT COUNTS. Prove the row's statement (the work); the ties are given (YtbeebeamdjbkmaaGreatDoorTie.lean); close each card by the builder's one call (the guide's Derived/Test/ToyasCard.lean, 'card_holds'). Laid BY PROGRAM, IN A SANDBOX (cutbox-door.mjs). By AI agents, Wed Nov 11 2026. No macro, syntax, notation, axiom, sorry.
-/
import Derived.Test.YtbeebeamdjbkmaaGreatDoorRows
import GoSem.ClaimSeven
namespace Go.Proofs.YtbeebeamdjbkmaaGreatDoor
namespace Rows

/-- THE TIED CARD OF 'laws.FnExactIndexTrue'. -/
def fnExactIndexTrueCard : Claim7 := { stood := { row := fnExactIndexTrueRow, standIns := [], harness := (true, "ee0f95fce048ab41b56f7e12542e5e3d04dd5179227d079e9a1d42ba96f3a45a"), looks := false }, kinds := [], alts := [], laidByText := true, laidKinds := [.data, .data, .data, .data, .pinned], laidTests := true, laidLooks := .later }
def FnExactIndexTrueCardSaid : Prop := Claim7.holds Tryz.pinned (.plain (OpenSpec.ofChange fnExactIndexTrueSpec)) fnExactIndexTrueCard

/-- THE TIED CARD OF 'laws.FnExactUpdateRow'. -/
def fnExactUpdateRowCard : Claim7 := { stood := { row := fnExactUpdateRowRow, standIns := [], harness := (true, "ee0f95fce048ab41b56f7e12542e5e3d04dd5179227d079e9a1d42ba96f3a45a"), looks := false }, kinds := [], alts := [], laidByText := true, laidKinds := [.data, .data, .data, .data, .pinned], laidTests := true, laidLooks := .later }
def FnExactUpdateRowCardSaid : Prop := Claim7.holds Tryz.pinned (.plain (OpenSpec.ofChange fnExactUpdateRowSpec)) fnExactUpdateRowCard

/-- THE TIED CARD OF 'laws.FnExactRowAt'. -/
def fnExactRowAtCard : Claim7 := { stood := { row := fnExactRowAtRow, standIns := [], harness := (true, "ee0f95fce048ab41b56f7e12542e5e3d04dd5179227d079e9a1d42ba96f3a45a"), looks := false }, kinds := [], alts := [], laidByText := true, laidKinds := [.data, .data, .data, .data, .pinned], laidTests := true, laidLooks := .later }
def FnExactRowAtCardSaid : Prop := Claim7.holds Tryz.pinned (.plain (OpenSpec.ofChange fnExactRowAtSpec)) fnExactRowAtCard

/-- THE TIED CARD OF 'laws.FnExactRowsOf'. -/
def fnExactRowsOfCard : Claim7 := { stood := { row := fnExactRowsOfRow, standIns := [], harness := (true, "ee0f95fce048ab41b56f7e12542e5e3d04dd5179227d079e9a1d42ba96f3a45a"), looks := false }, kinds := [], alts := [], laidByText := true, laidKinds := [.data, .data, .data, .data, .pinned], laidTests := true, laidLooks := .later }
def FnExactRowsOfCardSaid : Prop := Claim7.holds Tryz.pinned (.plain (OpenSpec.ofChange fnExactRowsOfSpec)) fnExactRowsOfCard

/-- THE TIED CARD OF 'laws.FnExactInsertRow'. -/
def fnExactInsertRowCard : Claim7 := { stood := { row := fnExactInsertRowRow, standIns := [], harness := (true, "ee0f95fce048ab41b56f7e12542e5e3d04dd5179227d079e9a1d42ba96f3a45a"), looks := false }, kinds := [], alts := [], laidByText := true, laidKinds := [.data, .data, .data, .data, .pinned], laidTests := true, laidLooks := .later }
def FnExactInsertRowCardSaid : Prop := Claim7.holds Tryz.pinned (.plain (OpenSpec.ofChange fnExactInsertRowSpec)) fnExactInsertRowCard

/-- THE TIED CARD OF 'laws.FnExactDeleteRow'. -/
def fnExactDeleteRowCard : Claim7 := { stood := { row := fnExactDeleteRowRow, standIns := [], harness := (true, "ee0f95fce048ab41b56f7e12542e5e3d04dd5179227d079e9a1d42ba96f3a45a"), looks := false }, kinds := [], alts := [], laidByText := true, laidKinds := [.data, .data, .data, .data, .pinned], laidTests := true, laidLooks := .later }
def FnExactDeleteRowCardSaid : Prop := Claim7.holds Tryz.pinned (.plain (OpenSpec.ofChange fnExactDeleteRowSpec)) fnExactDeleteRowCard

/-- THE TIED CARD OF 'laws.FnExactRebuildIndex'. -/
def fnExactRebuildIndexCard : Claim7 := { stood := { row := fnExactRebuildIndexRow, standIns := [], harness := (true, "ee0f95fce048ab41b56f7e12542e5e3d04dd5179227d079e9a1d42ba96f3a45a"), looks := false }, kinds := [], alts := [], laidByText := true, laidKinds := [.data, .data, .data, .data, .pinned], laidTests := true, laidLooks := .later }
def FnExactRebuildIndexCardSaid : Prop := Claim7.holds Tryz.pinned (.plain (OpenSpec.ofChange fnExactRebuildIndexSpec)) fnExactRebuildIndexCard

/-- THE SECOND FORM's CARD OF 'laws.FnExactIndexTrue'. -/
def fnExactIndexTrueUptoCard : Claim7 := { stood := { row := fnExactIndexTrueUptoRow, standIns := [], harness := (true, "ee0f95fce048ab41b56f7e12542e5e3d04dd5179227d079e9a1d42ba96f3a45a"), looks := false }, kinds := [], alts := [], laidByText := true, laidKinds := [.data, .data, .data, .data, .pinned], laidTests := true, laidLooks := .later }
def FnExactIndexTrueUptoCardSaid : Prop := Claim7.holds Tryz.pinned (.plain (OpenSpec.upto fnExactIndexTrueSpec)) fnExactIndexTrueUptoCard

/-- THE SECOND FORM's CARD OF 'laws.FnExactUpdateRow'. -/
def fnExactUpdateRowUptoCard : Claim7 := { stood := { row := fnExactUpdateRowUptoRow, standIns := [], harness := (true, "ee0f95fce048ab41b56f7e12542e5e3d04dd5179227d079e9a1d42ba96f3a45a"), looks := false }, kinds := [], alts := [], laidByText := true, laidKinds := [.data, .data, .data, .data, .pinned], laidTests := true, laidLooks := .later }
def FnExactUpdateRowUptoCardSaid : Prop := Claim7.holds Tryz.pinned (.plain (OpenSpec.upto fnExactUpdateRowSpec)) fnExactUpdateRowUptoCard

/-- THE SECOND FORM's CARD OF 'laws.FnExactRowAt'. -/
def fnExactRowAtUptoCard : Claim7 := { stood := { row := fnExactRowAtUptoRow, standIns := [], harness := (true, "ee0f95fce048ab41b56f7e12542e5e3d04dd5179227d079e9a1d42ba96f3a45a"), looks := false }, kinds := [], alts := [], laidByText := true, laidKinds := [.data, .data, .data, .data, .pinned], laidTests := true, laidLooks := .later }
def FnExactRowAtUptoCardSaid : Prop := Claim7.holds Tryz.pinned (.plain (OpenSpec.upto fnExactRowAtSpec)) fnExactRowAtUptoCard

/-- THE SECOND FORM's CARD OF 'laws.FnExactRowsOf'. -/
def fnExactRowsOfUptoCard : Claim7 := { stood := { row := fnExactRowsOfUptoRow, standIns := [], harness := (true, "ee0f95fce048ab41b56f7e12542e5e3d04dd5179227d079e9a1d42ba96f3a45a"), looks := false }, kinds := [], alts := [], laidByText := true, laidKinds := [.data, .data, .data, .data, .pinned], laidTests := true, laidLooks := .later }
def FnExactRowsOfUptoCardSaid : Prop := Claim7.holds Tryz.pinned (.plain (OpenSpec.upto fnExactRowsOfSpec)) fnExactRowsOfUptoCard

/-- THE SECOND FORM's CARD OF 'laws.FnExactInsertRow'. -/
def fnExactInsertRowUptoCard : Claim7 := { stood := { row := fnExactInsertRowUptoRow, standIns := [], harness := (true, "ee0f95fce048ab41b56f7e12542e5e3d04dd5179227d079e9a1d42ba96f3a45a"), looks := false }, kinds := [], alts := [], laidByText := true, laidKinds := [.data, .data, .data, .data, .pinned], laidTests := true, laidLooks := .later }
def FnExactInsertRowUptoCardSaid : Prop := Claim7.holds Tryz.pinned (.plain (OpenSpec.upto fnExactInsertRowSpec)) fnExactInsertRowUptoCard

/-- THE SECOND FORM's CARD OF 'laws.FnExactDeleteRow'. -/
def fnExactDeleteRowUptoCard : Claim7 := { stood := { row := fnExactDeleteRowUptoRow, standIns := [], harness := (true, "ee0f95fce048ab41b56f7e12542e5e3d04dd5179227d079e9a1d42ba96f3a45a"), looks := false }, kinds := [], alts := [], laidByText := true, laidKinds := [.data, .data, .data, .data, .pinned], laidTests := true, laidLooks := .later }
def FnExactDeleteRowUptoCardSaid : Prop := Claim7.holds Tryz.pinned (.plain (OpenSpec.upto fnExactDeleteRowSpec)) fnExactDeleteRowUptoCard

/-- THE SECOND FORM's CARD OF 'laws.FnExactRebuildIndex'. -/
def fnExactRebuildIndexUptoCard : Claim7 := { stood := { row := fnExactRebuildIndexUptoRow, standIns := [], harness := (true, "ee0f95fce048ab41b56f7e12542e5e3d04dd5179227d079e9a1d42ba96f3a45a"), looks := false }, kinds := [], alts := [], laidByText := true, laidKinds := [.data, .data, .data, .data, .pinned], laidTests := true, laidLooks := .later }
def FnExactRebuildIndexUptoCardSaid : Prop := Claim7.holds Tryz.pinned (.plain (OpenSpec.upto fnExactRebuildIndexSpec)) fnExactRebuildIndexUptoCard
end Rows
end Go.Proofs.YtbeebeamdjbkmaaGreatDoor
