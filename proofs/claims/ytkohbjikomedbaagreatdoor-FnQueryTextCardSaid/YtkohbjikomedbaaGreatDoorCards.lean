/-
  DERIVED. GIVEN WITH THE SEED: THE CARDS: each row of YtkohbjikomedbaaGreatDoorRows.lean that lists a variable, with what it lists TIED to the program's text (the seventh form; the later family's looks); each row that meets fmt, with fmt's text TOLD by the authors' own Lean function (tested against real Go, not proved from fmt's source: count such statements apart). THE CARD IS WHAT COUNTS. Prove the row's statement (the work); the ties are given (YtkohbjikomedbaaGreatDoorTie.lean); close each card by the builder's one call (the guide's Derived/Test/ToyasCard.lean, 'card_holds'). Laid BY PROGRAM, IN A SANDBOX (cutbox-door.mjs). By AI agents, Wed Nov 11 2026. No macro, syntax, notation, axiom, sorry.
-/
import Derived.Test.YtkohbjikomedbaaGreatDoorRows
import GoSem.ClaimSeven
namespace Go.Proofs.YtkohbjikomedbaaGreatDoor
namespace Rows

/-- THE TIED CARD OF 'laws.FnExactCompileQuery'. -/
def fnExactCompileQueryCard : Claim7 := { stood := { row := fnExactCompileQueryRow, standIns := [], harness := (true, "c6737495d5f3136370bc219f7484fc8552a090e56bb190907335a5a7dbe1d7ac"), looks := true }, kinds := [], alts := [], laidByText := true, laidKinds := [.data, .data, .data, .data, .pinned], laidTests := true, laidLooks := .later }
def FnExactCompileQueryCardSaid : Prop := Claim7.holds Tryz.pinned (.plain (OpenSpec.ofChange fnExactCompileQuerySpec)) fnExactCompileQueryCard

/-- THE TIED CARD OF 'laws.FnQueryText'. -/
def fnQueryTextCard : Claim7 := { stood := { row := fnQueryTextRow, standIns := [], harness := (true, "c6737495d5f3136370bc219f7484fc8552a090e56bb190907335a5a7dbe1d7ac"), looks := true }, kinds := [], alts := [], laidByText := true, laidKinds := [.data, .data, .data, .data, .sentinel, .sentinel, .pinned], laidTests := true, laidLooks := .later }
def FnQueryTextCardSaid : Prop := Claim7.holds Tryz.pinned (.plain (OpenSpec.ofChange fnQueryTextSpec)) fnQueryTextCard

/-- THE TIED CARD OF 'laws.FnExactParseQuery'. -/
def fnExactParseQueryCard : Claim7 := { stood := { row := fnExactParseQueryRow, standIns := [], harness := (true, "c6737495d5f3136370bc219f7484fc8552a090e56bb190907335a5a7dbe1d7ac"), looks := true }, kinds := [], alts := [], laidByText := true, laidKinds := [.data, .data, .data, .data, .sentinel, .sentinel, .pinned], laidTests := true, laidLooks := .later }
def FnExactParseQueryCardSaid : Prop := Claim7.holds Tryz.pinned (.plain (OpenSpec.ofChange fnExactParseQuerySpec)) fnExactParseQueryCard

/-- THE SECOND FORM's CARD OF 'laws.FnExactCompileQuery'. -/
def fnExactCompileQueryUptoCard : Claim7 := { stood := { row := fnExactCompileQueryUptoRow, standIns := [], harness := (true, "c6737495d5f3136370bc219f7484fc8552a090e56bb190907335a5a7dbe1d7ac"), looks := true }, kinds := [], alts := [], laidByText := true, laidKinds := [.data, .data, .data, .data, .pinned], laidTests := true, laidLooks := .later }
def FnExactCompileQueryUptoCardSaid : Prop := Claim7.holds Tryz.pinned (.plain (OpenSpec.upto fnExactCompileQuerySpec)) fnExactCompileQueryUptoCard

/-- THE SECOND FORM's CARD OF 'laws.FnQueryText'. -/
def fnQueryTextUptoCard : Claim7 := { stood := { row := fnQueryTextUptoRow, standIns := [], harness := (true, "c6737495d5f3136370bc219f7484fc8552a090e56bb190907335a5a7dbe1d7ac"), looks := true }, kinds := [], alts := [], laidByText := true, laidKinds := [.data, .data, .data, .data, .sentinel, .sentinel, .pinned], laidTests := true, laidLooks := .later }
def FnQueryTextUptoCardSaid : Prop := Claim7.holds Tryz.pinned (.plain (OpenSpec.upto fnQueryTextSpec)) fnQueryTextUptoCard

/-- THE SECOND FORM's CARD OF 'laws.FnExactParseQuery'. -/
def fnExactParseQueryUptoCard : Claim7 := { stood := { row := fnExactParseQueryUptoRow, standIns := [], harness := (true, "c6737495d5f3136370bc219f7484fc8552a090e56bb190907335a5a7dbe1d7ac"), looks := true }, kinds := [], alts := [], laidByText := true, laidKinds := [.data, .data, .data, .data, .sentinel, .sentinel, .pinned], laidTests := true, laidLooks := .later }
def FnExactParseQueryUptoCardSaid : Prop := Claim7.holds Tryz.pinned (.plain (OpenSpec.upto fnExactParseQuerySpec)) fnExactParseQueryUptoCard
end Rows
end Go.Proofs.YtkohbjikomedbaaGreatDoor
