/- Queries by value: szQuery, toQuery, eqQuery. -/
import Derived.Test.YtfimopcklknekaaGreatDoorCondEq
namespace Go.Proofs.YtfimopcklknekaaGreatDoor
open Go.RowKit
set_option linter.unusedVariables false

/-- A query's plain contents. -/
structure QueryV where
  table : ByteArray
  cols : List ByteArray
  conds : List CondV
  order : ByteArray
  desc : Bool
  limit : Int

/-- A query as a value: its two slices lie at a1 and a2. -/
def qAgg (q : QueryV) (a1 : Option Addr) (c1 : Nat) (a2 : Option Addr) (c2 : Nat) : Value :=
  .agg #[.string q.table, .slice a1 q.cols.length c1, .slice a2 q.conds.length c2, .string q.order, .bool q.desc, .int .i64 q.limit]

def queryNeed (q : QueryV) : Nat := q.table.size + strsNeed q.cols + condsNeed q.conds + q.order.size

/-- No text or slice of a query is longer than an int can say. -/
def QueryWf (q : QueryV) : Prop :=
  q.table.size ≤ 9223372036854775807 ∧ q.order.size ≤ 9223372036854775807 ∧ q.cols.length ≤ 9223372036854775807 ∧ q.conds.length ≤ 9223372036854775807 ∧
  (∀ x ∈ q.cols, x.size ≤ 9223372036854775807) ∧ (∀ x ∈ q.conds, x.1.size ≤ 9223372036854775807 ∧ x.2.2.size ≤ 9223372036854775807)

set_option maxHeartbeats 2000000 in
theorem szQuery_any (q : QueryV) (a1 : Option Addr) (c1 : Nat) (a2 : Option Addr) (c2 : Nat) (left : Int) (w : World) (h0 : 0 ≤ left) (h1 : left ≤ 1048576) (hq : QueryWf q)
    (hr1 : RowAt w w.heap.size a1 (strCells q.cols)) (hr2 : RowAt w w.heap.size a2 (condCells q.conds)) :
    Calls Tryz.prog 4 #[qAgg q a1 c1 a2 c2, .int .i64 left] w (SzPost (queryNeed q) left w) := by
  obtain ⟨t, cols, conds, o, d, l⟩ := q
  obtain ⟨q1, q2, q3, q4, q5, q6⟩ := hq
  simp only [qAgg, queryNeed] at *
  have Q5 := Lib.hid q5
  have Q6 := Lib.hid q6
  have H1 := Lib.hid hr1
  have H2 := Lib.hid hr2
  clear q5 q6 hr1 hr2
  by_cases k1 : left < t.size
  · go_enter Tryz.func4, Tryz.ntmps4
    go_wp2_with fail
    go_ret
    exact ⟨-1, .inr ⟨by omega, rfl⟩, rfl, (Below.refl _ _).alloc (Nat.le_refl _) _⟩
  go_enter Tryz.func4, Tryz.ntmps4
  go_wp2_with fail
  refine (szStringS_any cols a1 c1 w.heap.size _ _ (by omega) (by omega) q3 Q5.out (H1.out.alloc (Nat.le_refl _) _)).mono ?_
  rintro e w1 ⟨r1, hr1, rfl, hb1⟩
  have hb1' := ((Below.refl w.heap.size w).alloc (Nat.le_refl _) (.cells #[.string t, .slice a1 cols.length c1, .slice a2 conds.length c2, .string o, .bool d, .int .i64 l] 25)).trans (hb1.mono (by simp))
  have blk1 := (Blk.new w 25 #[.string t, .slice a1 cols.length c1, .slice a2 conds.length c2, .string o, .bool d, .int .i64 l]).below hb1 (by simp)
  by_cases k2 : r1 < 0
  · have F := Lib.hid (show left < ((t.size + strsNeed cols + condsNeed conds + o.size : Nat) : Int) from by omega)
    clear hr1
    go_wp2_with fail
    go_ret
    exact ⟨-1, .inr ⟨F.out, rfl⟩, rfl, hb1'⟩
  have e1 := Lib.hid (show r1 = left - t.size - strsNeed cols from by omega)
  have hle1 : r1 ≤ 1048576 := by omega
  clear hr1
  have d2 := blk1.cell 2
  simp at d2
  go_wp2_with fail
  refine (szCondS_any conds a2 c2 r1 w1 (by omega) (by omega) q4 Q6.out ((H2.out.below hb1').more hb1'.size)).mono ?_
  rintro e w2 ⟨r2, hr2, rfl, hb2⟩
  have hb2' := hb1'.trans (hb2.mono hb1'.size)
  have hlt1 := blk1.lt
  have blk2 := blk1.below hb2 hlt1
  have d3 := blk2.cell 3
  simp at d3
  by_cases k3 : r2 < 0
  · have F := Lib.hid (show left < ((t.size + strsNeed cols + condsNeed conds + o.size : Nat) : Int) from by have := e1.out; omega)
    clear hr2
    go_wp2_with fail
    go_ret
    exact ⟨-1, .inr ⟨F.out, rfl⟩, rfl, hb2'⟩
  have e2 := Lib.hid (show r2 = r1 - condsNeed conds from by omega)
  have hle : r2 ≤ 1048576 := by have := e1.out; omega
  clear hr2
  by_cases k4 : r2 < o.size
  · have F := Lib.hid (show left < ((t.size + strsNeed cols + condsNeed conds + o.size : Nat) : Int) from by have := e1.out; have := e2.out; omega)
    go_wp2_with fail
    go_ret
    exact ⟨-1, .inr ⟨F.out, rfl⟩, rfl, hb2'⟩
  · have F := Lib.hid (show (((t.size + strsNeed cols + condsNeed conds + o.size : Nat) : Int) ≤ left ∧ r2 - o.size = left - ((t.size + strsNeed cols + condsNeed conds + o.size : Nat) : Int)) from by have := e1.out; have := e2.out; omega)
    go_wp2_with fail
    go_ret
    exact ⟨_, .inl F.out, rfl, hb2'⟩

/-- A query comes back: its contents, and where its slices lie. -/
def QueryPost (q : QueryV) (w : World) (e : Ending) (w' : World) : Prop :=
  ∃ a1 c1 a2 c2, e = .returned (qAgg q a1 c1 a2 c2) ∧ RowAt w' w'.heap.size a1 (strCells q.cols) ∧ RowAt w' w'.heap.size a2 (condCells q.conds) ∧ (q.cols.length ≤ c1 ∧ q.conds.length ≤ c2) ∧ Below w.heap.size w w'

set_option maxHeartbeats 2000000 in
theorem toQuery_any (q : QueryV) (a1 : Option Addr) (c1 : Nat) (a2 : Option Addr) (c2 : Nat) (w : World) (h1 : q.cols.length ≤ 1048576) (h2 : q.conds.length ≤ 1048576)
    (hr1 : RowAt w w.heap.size a1 (strCells q.cols)) (hr2 : RowAt w w.heap.size a2 (condCells q.conds)) :
    Calls Tryz.prog 6 #[qAgg q a1 c1 a2 c2] w (QueryPost q w) := by
  obtain ⟨t, cols, conds, o, d, l⟩ := q
  simp only [qAgg] at *
  have H1 := Lib.hid hr1
  have H2 := Lib.hid hr2
  clear hr1 hr2
  go_enter Tryz.func6, Tryz.ntmps6
  go_wp2_with fail
  obtain ⟨W0, hW0⟩ : ∃ W0, W0 = (((w.alloc (.cells #[.string t, .slice a1 cols.length c1, .slice a2 conds.length c2, .string o, .bool d, .int .i64 l] 25)).alloc
    (.cells #[.string ⟨#[]⟩, .slice none 0 0, .slice none 0 0, .string ⟨#[]⟩, .bool false, .int .i64 0] 30)).alloc
    (.cells #[.string t, .slice none 0 0, .slice none 0 0, .string ⟨#[]⟩, .bool false, .int .i64 0] 30)) := ⟨_, rfl⟩
  have z0 : W0.heap.size = w.heap.size + 3 := by rw [hW0]; simp
  have bA : Blk W0 w.heap.size 25 #[.string t, .slice a1 cols.length c1, .slice a2 conds.length c2, .string o, .bool d, .int .i64 l] := by
    rw [hW0]; exact ((Blk.new _ _ _).alloc _).alloc _
  have bB : Blk W0 (w.heap.size + 1) 30 #[.string ⟨#[]⟩, .slice none 0 0, .slice none 0 0, .string ⟨#[]⟩, .bool false, .int .i64 0] := by
    rw [hW0]; exact (by simpa using Blk.new (w.alloc (.cells #[.string t, .slice a1 cols.length c1, .slice a2 conds.length c2, .string o, .bool d, .int .i64 l] 25)) 30 #[.string ⟨#[]⟩, .slice none 0 0, .slice none 0 0, .string ⟨#[]⟩, .bool false, .int .i64 0] : Blk _ (w.heap.size + 1) _ _).alloc _
  have bC : Blk W0 (w.heap.size + 1 + 1) 30 #[.string t, .slice none 0 0, .slice none 0 0, .string ⟨#[]⟩, .bool false, .int .i64 0] := by
    rw [hW0]; simpa using Blk.new ((w.alloc (.cells #[.string t, .slice a1 cols.length c1, .slice a2 conds.length c2, .string o, .bool d, .int .i64 l] 25)).alloc (.cells #[.string ⟨#[]⟩, .slice none 0 0, .slice none 0 0, .string ⟨#[]⟩, .bool false, .int .i64 0] 30)) 30 #[.string t, .slice none 0 0, .slice none 0 0, .string ⟨#[]⟩, .bool false, .int .i64 0]
  have hbW : Below w.heap.size w W0 := by
    rw [hW0]; exact (((Below.refl _ _).alloc (Nat.le_refl _) _).alloc (by simp) _).alloc (by simp; omega) _
  rw [← hW0]
  clear hW0
  refine (toStringS_any cols a1 c1 W0 h1 ((H1.out.below hbW).more hbW.size)).mono ?_
  rintro e w1 ⟨v1, rfl, hown1, hb1⟩
  have A1 := bA.below hb1 (by omega)
  have B1 := bB.below hb1 (by omega)
  have C1 := bC.below hb1 (by omega)
  have hbw1 := hbW.trans (hb1.mono hbW.size)
  obtain ⟨r1, k1, rfl, hrow1⟩ := RowAt.of_own hown1
  have s1 := hb1.size
  have C1' := C1.set_ 1 (.slice r1 cols.length k1)
  have fC := C1.frozen 1
  have gC := C1.cell 1
  have gA := A1.cell 2
  simp at gC gA
  have A1' := A1.far (p := ⟨w.heap.size + 1 + 1, 1, none⟩) (by simp; omega) (.slice r1 cols.length k1)
  have B1' := B1.far (p := ⟨w.heap.size + 1 + 1, 1, none⟩) (by simp) (.slice r1 cols.length k1)
  have hbw1' := hbw1.setCell (p := ⟨w.heap.size + 1 + 1, 1, none⟩) (by simp; omega) (.slice r1 cols.length k1)
  go_wp2_with fail
  obtain ⟨W1, hW1⟩ : ∃ W1, W1 = w1.setCell ⟨w.heap.size + 1 + 1, 1, none⟩ (.slice r1 cols.length k1) := ⟨_, rfl⟩
  have own1 := ownsRow_setCell_below hown1 (a := ⟨w.heap.size + 1 + 1, 1, none⟩) (by simp; omega) (.slice r1 cols.length k1)
  have sW1 : W1.heap.size = w1.heap.size := by rw [hW1]; simp [World.setCell]
  rw [← hW1] at C1' A1' B1' hbw1' own1
  rw [← hW1]
  clear hW1 fC gC gA C1 A1 B1 hbw1 hown1 hrow1
  refine (toCondS_any conds a2 c2 W1 h2 ((H2.out.below hbw1').more hbw1'.size)).mono ?_
  rintro e w2 ⟨v2, rfl, hown2, hb2⟩
  have hbw2 := hbw1'.trans (hb2.mono hbw1'.size)
  have A2 := A1'.below hb2 (by omega)
  have B2 := B1'.below hb2 (by omega)
  have C2 := C1'.below hb2 (by omega)
  have own2 := own_below own1 hb2
  obtain ⟨r2, k2, rfl, hrow2⟩ := RowAt.of_own hown2
  have s2 := hb2.size
  have a3 := A2.cell 3
  have a4 := A2.cell 4
  have a5 := A2.cell 5
  have x0 := C2.cell 0
  have x1 := C2.cell 1
  have x2 := C2.cell 2
  have x3 := C2.cell 3
  have x4 := C2.cell 4
  have x5 := C2.cell 5
  have y0 := B2.cell 0
  have y1 := B2.cell 1
  have y2 := B2.cell 2
  have y3 := B2.cell 3
  have y4 := B2.cell 4
  have y5 := B2.cell 5
  have fx2 := C2.frozen 2
  have fx3 := C2.frozen 3
  have fx4 := C2.frozen 4
  have fx5 := C2.frozen 5
  have fy0 := B2.frozen 0
  have fy1 := B2.frozen 1
  have fy2 := B2.frozen 2
  have fy3 := B2.frozen 3
  have fy4 := B2.frozen 4
  have fy5 := B2.frozen 5
  simp at a3 a4 a5 x0 x1 x2 x3 x4 x5 y0 y1 y2 y3 y4 y5
  clear A2 B2 C2 A1' B1' C1' bA bB bC
  go_wp2_with fail
  have T := ((((((((((Touched.refl w.heap.size (w.heap.size + 3) w2).setCell (p := ⟨w.heap.size + 1 + 1, 2, none⟩) (by simp; omega) (by simp) (.slice r2 conds.length k2)).setCell
    (p := ⟨w.heap.size + 1 + 1, 3, none⟩) (by simp; omega) (by simp) (.string o)).setCell
    (p := ⟨w.heap.size + 1 + 1, 4, none⟩) (by simp; omega) (by simp) (.bool d)).setCell
    (p := ⟨w.heap.size + 1 + 1, 5, none⟩) (by simp; omega) (by simp) (.int .i64 l)).setCell
    (p := ⟨w.heap.size + 1, 0, none⟩) (by simp) (by simp) (.string t)).setCell
    (p := ⟨w.heap.size + 1, 1, none⟩) (by simp) (by simp) (.slice r1 cols.length k1)).setCell
    (p := ⟨w.heap.size + 1, 2, none⟩) (by simp) (by simp) (.slice r2 conds.length k2)).setCell
    (p := ⟨w.heap.size + 1, 3, none⟩) (by simp) (by simp) (.string o)).setCell
    (p := ⟨w.heap.size + 1, 4, none⟩) (by simp) (by simp) (.bool d)).setCell
    (p := ⟨w.heap.size + 1, 5, none⟩) (by simp) (by simp) (.int .i64 l)
  obtain ⟨_, _, he1, hro1⟩ := RowAt.of_own (T.own own2 (by omega))
  obtain ⟨_, _, he2, hro2⟩ := RowAt.of_own (T.own hown2 (by omega))
  injection he1 with he1 _ _
  injection he2 with he2 _ _
  subst he1 he2
  exact bodyPost_ret (v := .agg #[.string t, .slice r1 cols.length k1, .slice r2 conds.length k2, .string o, .bool d, .int .i64 l]) (by simp [results, Tryz.results6, go_sem, y0, y1, y2, y3, y4, y5]) rfl
    ⟨r1, k1, r2, k2, rfl, hro1, hro2, ⟨own_cap own2, own_cap hown2⟩, T.below hbw2 (Nat.le_refl _)⟩
end Go.Proofs.YtfimopcklknekaaGreatDoor
