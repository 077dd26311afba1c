/-
  DERIVED. GIVEN WITH THE SEED: THE CARDS: each row of YtpgnpamkcmngmaaGreatDoorRows.lean that lists a variable, with what it lists TIED to the program's text (the seventh form; the later family's looks); each row that meets fmt, with fmt's text TOLD by the authors' own Lean function (tested against real Go, not proved from fmt's source: count such statements apart). THE CARD IS WHAT COUNTS. Prove the row's statement (the work); the ties are given (YtpgnpamkcmngmaaGreatDoorTie.lean); close each card by the builder's one call (the guide's Derived/Test/ToyasCard.lean, 'card_holds'). Laid BY PROGRAM, IN A SANDBOX (cutbox-door.mjs). By AI agents, Wed Nov 11 2026. No macro, syntax, notation, axiom, sorry.
-/
import Derived.Test.YtpgnpamkcmngmaaGreatDoorRows
import GoSem.ClaimSeven
namespace Go.Proofs.YtpgnpamkcmngmaaGreatDoor
namespace Rows

/-- THE TIED CARD OF 'laws.FnPages'. -/
def fnPagesCard : Claim7 := { stood := { row := fnPagesRow, standIns := [], harness := (true, "e2ac345017b18a1e137ec6f8334d8c605f016938e485b9625894bf1e43df6e3c"), looks := false }, kinds := [], alts := [], laidByText := true, laidKinds := [.data, .data, .data, .data, .pinned], laidTests := true, laidLooks := .later }
def FnPagesCardSaid : Prop := Claim7.holds Tryz.pinned (.plain (OpenSpec.ofChange fnPagesSpec)) fnPagesCard

/-- THE TIED CARD OF 'laws.FnAfter'. -/
def fnAfterCard : Claim7 := { stood := { row := fnAfterRow, standIns := [], harness := (true, "e2ac345017b18a1e137ec6f8334d8c605f016938e485b9625894bf1e43df6e3c"), looks := false }, kinds := [], alts := [], laidByText := true, laidKinds := [.data, .data, .data, .data, .pinned], laidTests := true, laidLooks := .later }
def FnAfterCardSaid : Prop := Claim7.holds Tryz.pinned (.plain (OpenSpec.ofChange fnAfterSpec)) fnAfterCard

/-- THE TIED CARD OF 'laws.FnExactTakeParcel'. -/
def fnExactTakeParcelCard : Claim7 := { stood := { row := fnExactTakeParcelRow, standIns := [], harness := (true, "e2ac345017b18a1e137ec6f8334d8c605f016938e485b9625894bf1e43df6e3c"), looks := false }, kinds := [], alts := [], laidByText := true, laidKinds := [.data, .data, .data, .data, .pinned], laidTests := true, laidLooks := .later }
def FnExactTakeParcelCardSaid : Prop := Claim7.holds Tryz.pinned (.plain (OpenSpec.ofChange fnExactTakeParcelSpec)) fnExactTakeParcelCard

/-- THE SECOND FORM's CARD OF 'laws.FnPages'. -/
def fnPagesUptoCard : Claim7 := { stood := { row := fnPagesUptoRow, standIns := [], harness := (true, "e2ac345017b18a1e137ec6f8334d8c605f016938e485b9625894bf1e43df6e3c"), looks := false }, kinds := [], alts := [], laidByText := true, laidKinds := [.data, .data, .data, .data, .pinned], laidTests := true, laidLooks := .later }
def FnPagesUptoCardSaid : Prop := Claim7.holds Tryz.pinned (.plain (OpenSpec.upto fnPagesSpec)) fnPagesUptoCard

/-- THE SECOND FORM's CARD OF 'laws.FnAfter'. -/
def fnAfterUptoCard : Claim7 := { stood := { row := fnAfterUptoRow, standIns := [], harness := (true, "e2ac345017b18a1e137ec6f8334d8c605f016938e485b9625894bf1e43df6e3c"), looks := false }, kinds := [], alts := [], laidByText := true, laidKinds := [.data, .data, .data, .data, .pinned], laidTests := true, laidLooks := .later }
def FnAfterUptoCardSaid : Prop := Claim7.holds Tryz.pinned (.plain (OpenSpec.upto fnAfterSpec)) fnAfterUptoCard

/-- THE SECOND FORM's CARD OF 'laws.FnExactTakeParcel'. -/
def fnExactTakeParcelUptoCard : Claim7 := { stood := { row := fnExactTakeParcelUptoRow, standIns := [], harness := (true, "e2ac345017b18a1e137ec6f8334d8c605f016938e485b9625894bf1e43df6e3c"), looks := false }, kinds := [], alts := [], laidByText := true, laidKinds := [.data, .data, .data, .data, .pinned], laidTests := true, laidLooks := .later }
def FnExactTakeParcelUptoCardSaid : Prop := Claim7.holds Tryz.pinned (.plain (OpenSpec.upto fnExactTakeParcelSpec)) fnExactTakeParcelUptoCard
end Rows
end Go.Proofs.YtpgnpamkcmngmaaGreatDoor
