/- Queries by value, compared: the laws' eqQuery, the reference's and the program's SameQuery. -/
import Derived.Test.YtfimopcklknekaaGreatDoorQuery
namespace Go.Proofs.YtfimopcklknekaaGreatDoor
open Go.RowKit
set_option linter.unusedVariables false

set_option maxHeartbeats 2000000 in
theorem eqQuery_same (q : QueryV) (a1 : Option Addr) (c1 : Nat) (a2 : Option Addr) (c2 : Nat) (b1 : Option Addr) (d1 : Nat) (b2 : Option Addr) (d2 : Nat) (w : World) (h1 : q.cols.length ≤ 1048576) (h2 : q.conds.length ≤ 1048576)
    (hr1 : RowAt w w.heap.size a1 (strCells q.cols)) (hr2 : RowAt w w.heap.size a2 (condCells q.conds)) (hs1 : RowAt w w.heap.size b1 (strCells q.cols)) (hs2 : RowAt w w.heap.size b2 (condCells q.conds)) :
    Calls Tryz.prog 8 #[qAgg q a1 c1 a2 c2, qAgg q b1 d1 b2 d2] w (ValPost (.bool true) w) := by
  obtain ⟨t, cols, conds, o, d, l⟩ := q
  simp only [qAgg] at *
  have H1 := Lib.hid hr1
  have H2 := Lib.hid hr2
  have H3 := Lib.hid hs1
  have H4 := Lib.hid hs2
  clear hr1 hr2 hs1 hs2
  go_enter Tryz.func8, Tryz.ntmps8
  go_wp2_with fail
  obtain ⟨W0, hW0⟩ : ∃ W0, W0 = ((w.alloc (.cells #[.string t, .slice a1 cols.length c1, .slice a2 conds.length c2, .string o, .bool d, .int .i64 l] 30)).alloc
    (.cells #[.string t, .slice b1 cols.length d1, .slice b2 conds.length d2, .string o, .bool d, .int .i64 l] 30)) := ⟨_, rfl⟩
  have bA : Blk W0 w.heap.size 30 #[.string t, .slice a1 cols.length c1, .slice a2 conds.length c2, .string o, .bool d, .int .i64 l] := by
    rw [hW0]; exact (Blk.new _ _ _).alloc _
  have bB : Blk W0 (w.heap.size + 1) 30 #[.string t, .slice b1 cols.length d1, .slice b2 conds.length d2, .string o, .bool d, .int .i64 l] := by
    rw [hW0]; simpa using Blk.new (w.alloc (.cells #[.string t, .slice a1 cols.length c1, .slice a2 conds.length c2, .string o, .bool d, .int .i64 l] 30)) 30 #[.string t, .slice b1 cols.length d1, .slice b2 conds.length d2, .string o, .bool d, .int .i64 l]
  have hbW : Below w.heap.size w W0 := by
    rw [hW0]; exact ((Below.refl _ _).alloc (Nat.le_refl _) _).alloc (by simp) _
  have z0 : W0.heap.size = w.heap.size + 2 := by rw [hW0]; simp
  rw [← hW0]
  clear hW0
  refine (eqStringS_any cols cols a1 b1 c1 d1 w.heap.size true (by simp) W0 (by omega) (by omega) (H1.out.below hbW) (H3.out.below hbW)).mono ?_
  rintro e w1 ⟨rfl, m1, rfl⟩
  have x2 := bA.cell 2
  have y2 := bB.cell 2
  simp at x2 y2
  go_wp2_with fail
  refine (eqCondS_same conds a2 b2 c2 d2 _ (by omega) ((H2.out.below (below_drewN hbW _)).more (by simpa using hbW.size)) ((H4.out.below (below_drewN hbW _)).more (by simpa using hbW.size))).mono ?_
  rintro e w2 ⟨rfl, hb2⟩
  have A2 := (bA.drewN m1).below hb2 (by simp; omega)
  have B2 := (bB.drewN m1).below hb2 (by simp; omega)
  have hbw2 : Below w.heap.size w w2 := (below_drewN hbW m1).trans (hb2.mono (by simpa using hbW.size))
  have x3 := A2.cell 3
  have x4 := A2.cell 4
  have x5 := A2.cell 5
  have y3 := B2.cell 3
  have y4 := B2.cell 4
  have y5 := B2.cell 5
  simp at x3 x4 x5 y3 y4 y5
  clear A2 B2 bA bB x2 y2
  go_wp2_with fail
  go_ret
  exact ⟨rfl, hbw2⟩

/-- Two queries are the same. -/
def sameQ (q p : QueryV) : Bool := decide (q.table = p.table) && (decide (q.cols = p.cols) && (decide (q.conds = p.conds) && (decide (q.order = p.order) && (decide (q.desc = p.desc) && decide (q.limit = p.limit)))))


end Go.Proofs.YtfimopcklknekaaGreatDoor
