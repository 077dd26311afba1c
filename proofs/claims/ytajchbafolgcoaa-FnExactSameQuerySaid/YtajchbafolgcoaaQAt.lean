/- Queries as values, by what they hold: contracts over opaque values. -/
import Derived.Test.YtajchbafolgcoaaQueryEq
namespace Go.Proofs.Ytajchbafolgcoaa
open Go.RowKit
set_option linter.unusedVariables false

/-- The value v is a query that holds q in the world w. -/
def QAt (w : World) (v : Value) (q : QueryV) : Prop :=
  ∃ a1 c1 a2 c2, v = qAgg q a1 c1 a2 c2 ∧ RowAt w w.heap.size a1 (strCells q.cols) ∧ RowAt w w.heap.size a2 (condCells q.conds)

theorem QAt.below {w w' : World} {v : Value} {q : QueryV} (h : QAt w v q) (hb : Below w.heap.size w w') : QAt w' v q := by
  obtain ⟨a1, c1, a2, c2, rfl, h1, h2⟩ := h
  exact ⟨a1, c1, a2, c2, rfl, (h1.below hb).more hb.size, (h2.below hb).more hb.size⟩
theorem QAt.of {w W : World} {q : QueryV} {a1 : Option Addr} {c1 : Nat} {a2 : Option Addr} {c2 : Nat} (hb : Below w.heap.size w W) (h1 : RowAt w w.heap.size a1 (strCells q.cols)) (h2 : RowAt w w.heap.size a2 (condCells q.conds)) : QAt W (qAgg q a1 c1 a2 c2) q :=
  ⟨a1, c1, a2, c2, rfl, (h1.below hb).more hb.size, (h2.below hb).more hb.size⟩

def QPost (q : QueryV) (w : World) (e : Ending) (w' : World) : Prop := ∃ v, e = .returned v ∧ QAt w' v q ∧ Below w.heap.size w w'

theorem toQuery_q (q : QueryV) (v : Value) (w : World) (h1 : q.cols.length ≤ 1048576) (h2 : q.conds.length ≤ 1048576) (h : QAt w v q) :
    Calls Try.prog 18 #[v] w (QPost q w) := by
  obtain ⟨a1, c1, a2, c2, rfl, r1, r2⟩ := h
  refine (toQuery_any q a1 c1 a2 c2 w h1 h2 r1 r2).mono fun e w' ⟨b1, d1, b2, d2, he, s1, s2, hb⟩ => ⟨_, he, ⟨b1, d1, b2, d2, rfl, s1, s2⟩, hb⟩

theorem sameQuery_spec_q (q p : QueryV) (v u : Value) (r : Bool) (hr : sameQ q p = r) (w : World)
    (h1 : q.cols.length ≤ 1048576) (h2 : q.conds.length ≤ 1048576) (h3 : p.cols.length ≤ 1048576) (h4 : p.conds.length ≤ 1048576) (hv : QAt w v q) (hu : QAt w u p) :
    Calls Try.prog 17 #[v, u] w (ValPost (.bool r) w) := by
  obtain ⟨a1, c1, a2, c2, rfl, r1, r2⟩ := hv
  obtain ⟨b1, d1, b2, d2, rfl, s1, s2⟩ := hu
  exact sameQuery_spec q p r hr a1 c1 a2 c2 b1 d1 b2 d2 w h1 h2 h3 h4 r1 r2 s1 s2

theorem sameQuery_impl_q (q p : QueryV) (v u : Value) (r : Bool) (hr : sameQ q p = r) (w : World)
    (h1 : q.cols.length ≤ 1048576) (h2 : q.conds.length ≤ 1048576) (h3 : p.cols.length ≤ 1048576) (h4 : p.conds.length ≤ 1048576) (hv : QAt w v q) (hu : QAt w u p) :
    Calls Try.prog 19 #[v, u] w (ValPost (.bool r) w) := by
  obtain ⟨a1, c1, a2, c2, rfl, r1, r2⟩ := hv
  obtain ⟨b1, d1, b2, d2, rfl, s1, s2⟩ := hu
  exact sameQuery_impl q p r hr a1 c1 a2 c2 b1 d1 b2 d2 w h1 h2 h3 h4 r1 r2 s1 s2

theorem eqQuery_q (q : QueryV) (v u : Value) (w : World) (h1 : q.cols.length ≤ 1048576) (h2 : q.conds.length ≤ 1048576) (hv : QAt w v q) (hu : QAt w u q) :
    Calls Try.prog 20 #[v, u] w (ValPost (.bool true) w) := by
  obtain ⟨a1, c1, a2, c2, rfl, r1, r2⟩ := hv
  obtain ⟨b1, d1, b2, d2, rfl, s1, s2⟩ := hu
  exact eqQuery_same q a1 c1 a2 c2 b1 d1 b2 d2 w h1 h2 r1 r2 s1 s2

theorem szQuery_q (q : QueryV) (v : Value) (left : Int) (w : World) (h0 : 0 ≤ left) (h1 : left ≤ 1048576) (hq : QueryWf q) (h : QAt w v q) :
    Calls Try.prog 16 #[v, .int .i64 left] w (SzPost (queryNeed q) left w) := by
  obtain ⟨a1, c1, a2, c2, rfl, r1, r2⟩ := h
  exact szQuery_any q a1 c1 a2 c2 left w h0 h1 hq r1 r2
end Go.Proofs.Ytajchbafolgcoaa
