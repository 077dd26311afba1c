/- Queries as values, by what they hold: contracts over values as they come. -/
import Derived.Test.YtfimopcklknekaaGreatDoorQueryEq
namespace Go.Proofs.YtfimopcklknekaaGreatDoor
open Go.RowKit
set_option linter.unusedVariables false

/-- The value v is a query that holds q in the world w. -/
def QAt (w : World) (v : Value) (q : QueryV) : Prop :=
  ∃ a1 c1 a2 c2, v = qAgg q a1 c1 a2 c2 ∧ RowAt w w.heap.size a1 (strCells q.cols) ∧ RowAt w w.heap.size a2 (condCells q.conds) ∧ (q.cols.length ≤ c1 ∧ q.conds.length ≤ c2)

theorem QAt.below {w w' : World} {v : Value} {q : QueryV} (h : QAt w v q) (hb : Below w.heap.size w w') : QAt w' v q := by
  obtain ⟨a1, c1, a2, c2, rfl, h1, h2, hc⟩ := h
  exact ⟨a1, c1, a2, c2, rfl, (h1.below hb).more hb.size, (h2.below hb).more hb.size, hc⟩
theorem QAt.of {w W : World} {q : QueryV} {a1 : Option Addr} {c1 : Nat} {a2 : Option Addr} {c2 : Nat} (hb : Below w.heap.size w W) (h1 : RowAt w w.heap.size a1 (strCells q.cols)) (h2 : RowAt w w.heap.size a2 (condCells q.conds)) (hc : q.cols.length ≤ c1 ∧ q.conds.length ≤ c2) : QAt W (qAgg q a1 c1 a2 c2) q :=
  ⟨a1, c1, a2, c2, rfl, (h1.below hb).more hb.size, (h2.below hb).more hb.size, hc⟩


theorem need_cols (q : QueryV) : q.cols.length + q.conds.length ≤ queryNeed q := by
  unfold queryNeed strsNeed condsNeed
  omega
theorem small_cols {q : QueryV} (h : queryNeed q ≤ 1048576) : q.cols.length ≤ 1048576 := by have := need_cols q; omega
theorem small_conds {q : QueryV} (h : queryNeed q ≤ 1048576) : q.conds.length ≤ 1048576 := by have := need_cols q; omega
theorem QAt.agg {w : World} {v : Value} {q : QueryV} (h : QAt w v q) : ∃ s0 a1 n1 c1 a2 n2 c2 s3 b4 i5, v = .agg #[.string s0, .slice a1 n1 c1, .slice a2 n2 c2, .string s3, .bool b4, .int .i64 i5] := by
  obtain ⟨a1, c1, a2, c2, rfl, _⟩ := h
  exact ⟨_, _, _, _, _, _, _, _, _, _, rfl⟩

def QPost (q : QueryV) (w : World) (e : Ending) (w' : World) : Prop := ∃ v, e = .returned v ∧ QAt w' v q ∧ Below w.heap.size w w'

theorem toQuery_q (q : QueryV) (v : Value) (w : World) (hn : queryNeed q ≤ 1048576) (h : QAt w v q) :
    Calls Tryz.prog 6 #[v] w (QPost q w) := by
  have h1 := small_cols hn
  have h2 := small_conds hn
  obtain ⟨a1, c1, a2, c2, rfl, r1, r2, _⟩ := h
  refine (toQuery_any q a1 c1 a2 c2 w h1 h2 r1 r2).mono fun e w' ⟨b1, d1, b2, d2, he, s1, s2, hc, hb⟩ => ⟨_, he, ⟨b1, d1, b2, d2, rfl, s1, s2, hc⟩, hb⟩

theorem eqQuery_q (q : QueryV) (v u : Value) (w : World) (hn : queryNeed q ≤ 1048576) (hv : QAt w v q) (hu : QAt w u q) :
    Calls Tryz.prog 8 #[v, u] w (ValPost (.bool true) w) := by
  have h1 := small_cols hn
  have h2 := small_conds hn
  obtain ⟨a1, c1, a2, c2, rfl, r1, r2, _⟩ := hv
  obtain ⟨b1, d1, b2, d2, rfl, s1, s2, _⟩ := hu
  exact eqQuery_same q a1 c1 a2 c2 b1 d1 b2 d2 w h1 h2 r1 r2 s1 s2

theorem szQuery_q (q : QueryV) (v : Value) (left : Int) (w : World) (h0 : 0 ≤ left) (h1 : left ≤ 1048576) (hq : QueryWf q) (h : QAt w v q) :
    Calls Tryz.prog 4 #[v, .int .i64 left] w (SzPost (queryNeed q) left w) := by
  obtain ⟨a1, c1, a2, c2, rfl, r1, r2, _⟩ := h
  exact szQuery_any q a1 c1 a2 c2 left w h0 h1 hq r1 r2
end Go.Proofs.YtfimopcklknekaaGreatDoor
