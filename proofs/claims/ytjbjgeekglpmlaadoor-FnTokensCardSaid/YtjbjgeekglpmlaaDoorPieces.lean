/- The program's pieces: pieces, LengthOf, PieceOf, FindOf, ExtractOf. -/
import Derived.Test.YtjbjgeekglpmlaaDoorPiecesLaw
import Derived.Test.YtjbjgeekglpmlaaDoorStrB
namespace Go.Proofs.YtjbjgeekglpmlaaDoor
open Go.RowKit
set_option linter.unusedVariables false

/-- The library's number MaxLen is some number. -/
def MaxL (w : World) : Prop := ∃ m : Int, w.cell? ⟨0, 0, none⟩ = some (.int .i64 m)
theorem MaxL.below {w w' : World} (h : MaxL w) (hb : Below w.heap.size w w') : MaxL w' := by
  obtain ⟨m, hm⟩ := h
  refine ⟨m, ?_⟩
  have hlt : 0 < w.heap.size := by
    rcases Nat.lt_or_ge 0 w.heap.size with h | h
    · exact h
    · have : w.heap[0]? = none := Array.getElem?_eq_none h
      simp [World.cell?, this] at hm
  rw [hb.cell (p := ⟨0, 0, none⟩) hlt]; exact hm

end Go.Proofs.YtjbjgeekglpmlaaDoor
