/-
  DERIVED. GIVEN WITH THE SEED: THE CARDS: each row of YtbjfffimnoanpaaGreatDoorRows.lean that lists a variable, with what it lists TIED to the program's text (the seventh form; the later family's looks); each row that meets fmt, with fmt's text TOLD by the authors' own Lean function (tested against real Go, not proved from fmt's source: count such statements apart). THE CARD IS WHAT COUNTS. Prove the row's statement (the work); the ties are given (YtbjfffimnoanpaaGreatDoorTie.lean); close each card by the builder's one call (the guide's Derived/Test/ToyasCard.lean, 'card_holds'). Laid BY PROGRAM, IN A SANDBOX (cutbox-door.mjs). By AI agents, Wed Nov 11 2026. No macro, syntax, notation, axiom, sorry.
-/
import Derived.Test.YtbjfffimnoanpaaGreatDoorRows
import GoSem.ClaimSeven
namespace Go.Proofs.YtbjfffimnoanpaaGreatDoor
namespace Rows

/-- THE TIED CARD OF 'laws.FnExactParseRef'. -/
def fnExactParseRefCard : Claim7 := { stood := { row := fnExactParseRefRow, standIns := [], harness := (true, "f9b80582ecb00ea7cf12cb6fb374e14641a5e75c5e9b56407c3ba621a406d566"), looks := false }, kinds := [], alts := [], laidByText := true, laidKinds := [.data, .data, .data, .data, .pinned], laidTests := true, laidLooks := .later }
def FnExactParseRefCardSaid : Prop := Claim7.holds Tryz.pinned (.plain (OpenSpec.ofChange fnExactParseRefSpec)) fnExactParseRefCard

/-- THE SECOND FORM's CARD OF 'laws.FnExactParseRef'. -/
def fnExactParseRefUptoCard : Claim7 := { stood := { row := fnExactParseRefUptoRow, standIns := [], harness := (true, "f9b80582ecb00ea7cf12cb6fb374e14641a5e75c5e9b56407c3ba621a406d566"), looks := false }, kinds := [], alts := [], laidByText := true, laidKinds := [.data, .data, .data, .data, .pinned], laidTests := true, laidLooks := .later }
def FnExactParseRefUptoCardSaid : Prop := Claim7.holds Tryz.pinned (.plain (OpenSpec.upto fnExactParseRefSpec)) fnExactParseRefUptoCard
end Rows
end Go.Proofs.YtbjfffimnoanpaaGreatDoor
