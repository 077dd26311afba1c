/-
  DERIVED. GIVEN WITH THE SEED: THE CARDS: each row of YtobhacnimkccmaaGreatDoorRows.lean that lists a variable, with what it lists TIED to the program's text (the seventh form; the later family's looks); each row that meets fmt, with fmt's text TOLD by the authors' own Lean function (tested against real Go, not proved from fmt's source: count such statements apart). THE CARD IS WHAT COUNTS. Prove the row's statement (the work); the ties are given (YtobhacnimkccmaaGreatDoorTie.lean); close each card by the builder's one call (the guide's Derived/Test/ToyasCard.lean, 'card_holds'). Laid BY PROGRAM, IN A SANDBOX (cutbox-door.mjs). By AI agents, Wed Nov 11 2026. No macro, syntax, notation, axiom, sorry.
-/
import Derived.Test.YtobhacnimkccmaaGreatDoorRows
import GoSem.ClaimSeven
namespace Go.Proofs.YtobhacnimkccmaaGreatDoor
namespace Rows

/-- THE TIED CARD OF 'laws.FnExactUnpackTree'. -/
def fnExactUnpackTreeCard : Claim7 := { stood := { row := fnExactUnpackTreeRow, standIns := [], harness := (true, "fefd736c45deaa24be6e13cbc691d665b000de7928888ef6409b6f4b6f992318"), looks := false }, kinds := [], alts := [], laidByText := true, laidKinds := [.data, .data, .data, .data, .pinned], laidTests := true, laidLooks := .later }
def FnExactUnpackTreeCardSaid : Prop := Claim7.holds Tryz.pinned (.plain (OpenSpec.ofChange fnExactUnpackTreeSpec)) fnExactUnpackTreeCard

/-- THE TIED CARD OF 'laws.FnExactGetPage'. -/
def fnExactGetPageCard : Claim7 := { stood := { row := fnExactGetPageRow, standIns := [], harness := (true, "fefd736c45deaa24be6e13cbc691d665b000de7928888ef6409b6f4b6f992318"), looks := false }, kinds := [], alts := [], laidByText := true, laidKinds := [.data, .data, .data, .data, .pinned], laidTests := true, laidLooks := .later }
def FnExactGetPageCardSaid : Prop := Claim7.holds Tryz.pinned (.plain (OpenSpec.ofChange fnExactGetPageSpec)) fnExactGetPageCard

/-- THE TIED CARD OF 'laws.FnExactGetParcel'. -/
def fnExactGetParcelCard : Claim7 := { stood := { row := fnExactGetParcelRow, standIns := [], harness := (true, "fefd736c45deaa24be6e13cbc691d665b000de7928888ef6409b6f4b6f992318"), looks := false }, kinds := [], alts := [], laidByText := true, laidKinds := [.data, .data, .data, .data, .pinned], laidTests := true, laidLooks := .later }
def FnExactGetParcelCardSaid : Prop := Claim7.holds Tryz.pinned (.plain (OpenSpec.ofChange fnExactGetParcelSpec)) fnExactGetParcelCard

/-- THE TIED CARD OF 'laws.FnAfter'. -/
def fnAfterCard : Claim7 := { stood := { row := fnAfterRow, standIns := [], harness := (true, "fefd736c45deaa24be6e13cbc691d665b000de7928888ef6409b6f4b6f992318"), looks := false }, kinds := [], alts := [], laidByText := true, laidKinds := [.data, .data, .data, .data, .pinned], laidTests := true, laidLooks := .later }
def FnAfterCardSaid : Prop := Claim7.holds Tryz.pinned (.plain (OpenSpec.ofChange fnAfterSpec)) fnAfterCard

/-- THE TIED CARD OF 'laws.FnExactTakeParcel'. -/
def fnExactTakeParcelCard : Claim7 := { stood := { row := fnExactTakeParcelRow, standIns := [], harness := (true, "fefd736c45deaa24be6e13cbc691d665b000de7928888ef6409b6f4b6f992318"), looks := false }, kinds := [], alts := [], laidByText := true, laidKinds := [.data, .data, .data, .data, .pinned], laidTests := true, laidLooks := .later }
def FnExactTakeParcelCardSaid : Prop := Claim7.holds Tryz.pinned (.plain (OpenSpec.ofChange fnExactTakeParcelSpec)) fnExactTakeParcelCard

/-- THE SECOND FORM's CARD OF 'laws.FnExactUnpackTree'. -/
def fnExactUnpackTreeUptoCard : Claim7 := { stood := { row := fnExactUnpackTreeUptoRow, standIns := [], harness := (true, "fefd736c45deaa24be6e13cbc691d665b000de7928888ef6409b6f4b6f992318"), looks := false }, kinds := [], alts := [], laidByText := true, laidKinds := [.data, .data, .data, .data, .pinned], laidTests := true, laidLooks := .later }
def FnExactUnpackTreeUptoCardSaid : Prop := Claim7.holds Tryz.pinned (.plain (OpenSpec.upto fnExactUnpackTreeSpec)) fnExactUnpackTreeUptoCard

/-- THE SECOND FORM's CARD OF 'laws.FnExactGetPage'. -/
def fnExactGetPageUptoCard : Claim7 := { stood := { row := fnExactGetPageUptoRow, standIns := [], harness := (true, "fefd736c45deaa24be6e13cbc691d665b000de7928888ef6409b6f4b6f992318"), looks := false }, kinds := [], alts := [], laidByText := true, laidKinds := [.data, .data, .data, .data, .pinned], laidTests := true, laidLooks := .later }
def FnExactGetPageUptoCardSaid : Prop := Claim7.holds Tryz.pinned (.plain (OpenSpec.upto fnExactGetPageSpec)) fnExactGetPageUptoCard

/-- THE SECOND FORM's CARD OF 'laws.FnExactGetParcel'. -/
def fnExactGetParcelUptoCard : Claim7 := { stood := { row := fnExactGetParcelUptoRow, standIns := [], harness := (true, "fefd736c45deaa24be6e13cbc691d665b000de7928888ef6409b6f4b6f992318"), looks := false }, kinds := [], alts := [], laidByText := true, laidKinds := [.data, .data, .data, .data, .pinned], laidTests := true, laidLooks := .later }
def FnExactGetParcelUptoCardSaid : Prop := Claim7.holds Tryz.pinned (.plain (OpenSpec.upto fnExactGetParcelSpec)) fnExactGetParcelUptoCard

/-- THE SECOND FORM's CARD OF 'laws.FnAfter'. -/
def fnAfterUptoCard : Claim7 := { stood := { row := fnAfterUptoRow, standIns := [], harness := (true, "fefd736c45deaa24be6e13cbc691d665b000de7928888ef6409b6f4b6f992318"), looks := false }, kinds := [], alts := [], laidByText := true, laidKinds := [.data, .data, .data, .data, .pinned], laidTests := true, laidLooks := .later }
def FnAfterUptoCardSaid : Prop := Claim7.holds Tryz.pinned (.plain (OpenSpec.upto fnAfterSpec)) fnAfterUptoCard

/-- THE SECOND FORM's CARD OF 'laws.FnExactTakeParcel'. -/
def fnExactTakeParcelUptoCard : Claim7 := { stood := { row := fnExactTakeParcelUptoRow, standIns := [], harness := (true, "fefd736c45deaa24be6e13cbc691d665b000de7928888ef6409b6f4b6f992318"), looks := false }, kinds := [], alts := [], laidByText := true, laidKinds := [.data, .data, .data, .data, .pinned], laidTests := true, laidLooks := .later }
def FnExactTakeParcelUptoCardSaid : Prop := Claim7.holds Tryz.pinned (.plain (OpenSpec.upto fnExactTakeParcelSpec)) fnExactTakeParcelUptoCard
end Rows
end Go.Proofs.YtobhacnimkccmaaGreatDoor
