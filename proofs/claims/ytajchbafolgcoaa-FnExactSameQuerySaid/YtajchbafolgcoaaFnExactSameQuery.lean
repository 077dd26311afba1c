/- The walk of the law FnExactSameQuery. -/
import Derived.Test.YtajchbafolgcoaaQAt
namespace Go.Proofs.Ytajchbafolgcoaa
open Go.RowKit
set_option linter.unusedVariables false

theorem need_cols (q : QueryV) : q.cols.length + q.conds.length ≤ queryNeed q := by
  unfold queryNeed strsNeed condsNeed
  omega

set_option maxHeartbeats 4000000 in
theorem FnExactSameQuery_walk (qa qb : QueryV) (a1 : Option Addr) (c1 : Nat) (a2 : Option Addr) (c2 : Nat) (b1 : Option Addr) (d1 : Nat) (b2 : Option Addr) (d2 : Nat) (w : World)
    (hqa : QueryWf qa) (hqb : QueryWf qb) (hr1 : RowAt w w.heap.size a1 (strCells qa.cols)) (hr2 : RowAt w w.heap.size a2 (condCells qa.conds)) (hs1 : RowAt w w.heap.size b1 (strCells qb.cols)) (hs2 : RowAt w w.heap.size b2 (condCells qb.conds)) :
    Calls Try.prog 4 #[qAgg qa a1 c1 a2 c2, qAgg qb b1 d1 b2 d2] w fun e w' => e = .returned (.bool true) ∧ Below w.heap.size w w' := by
  have na := Lib.hid (need_cols qa)
  have nb := Lib.hid (need_cols qb)
  have QA := Lib.hid (fun W (hb : Below w.heap.size w W) => (QAt.of hb hr1 hr2 : QAt W (qAgg qa a1 c1 a2 c2) qa))
  have QB := Lib.hid (fun W (hb : Below w.heap.size w W) => (QAt.of hb hs1 hs2 : QAt W (qAgg qb b1 d1 b2 d2) qb))
  clear hr1 hr2 hs1 hs2
  obtain ⟨ca, hca⟩ : ∃ ca : Array Value, ca = #[.string qa.table, .slice a1 qa.cols.length c1, .slice a2 qa.conds.length c2, .string qa.order, .bool qa.desc, .int .i64 qa.limit] := ⟨_, rfl⟩
  obtain ⟨cb, hcb⟩ : ∃ cb : Array Value, cb = #[.string qb.table, .slice b1 qb.cols.length d1, .slice b2 qb.conds.length d2, .string qb.order, .bool qb.desc, .int .i64 qb.limit] := ⟨_, rfl⟩
  have qaE : qAgg qa a1 c1 a2 c2 = .agg ca := by rw [hca]; rfl
  have qbE : qAgg qb b1 d1 b2 d2 = .agg cb := by rw [hcb]; rfl
  rw [qaE, qbE]
  rw [qaE] at QA
  rw [qbE] at QB
  subst hca hcb
  clear qaE qbE
  go_enter Try.func4, Try.ntmps4
  go_wp2_with fail
  obtain ⟨W0, hW0⟩ : ∃ W0, W0 = ((w.alloc (.cells #[.string qa.table, .slice a1 qa.cols.length c1, .slice a2 qa.conds.length c2, .string qa.order, .bool qa.desc, .int .i64 qa.limit] 31)).alloc
    (.cells #[.string qb.table, .slice b1 qb.cols.length d1, .slice b2 qb.conds.length d2, .string qb.order, .bool qb.desc, .int .i64 qb.limit] 31)) := ⟨_, rfl⟩
  have bA : Blk W0 w.heap.size 31 #[.string qa.table, .slice a1 qa.cols.length c1, .slice a2 qa.conds.length c2, .string qa.order, .bool qa.desc, .int .i64 qa.limit] := by
    rw [hW0]; exact (Blk.new _ _ _).alloc _
  have bB : Blk W0 (w.heap.size + 1) 31 #[.string qb.table, .slice b1 qb.cols.length d1, .slice b2 qb.conds.length d2, .string qb.order, .bool qb.desc, .int .i64 qb.limit] := by
    rw [hW0]; simpa using Blk.new (w.alloc (.cells #[.string qa.table, .slice a1 qa.cols.length c1, .slice a2 qa.conds.length c2, .string qa.order, .bool qa.desc, .int .i64 qa.limit] 31)) 31 #[.string qb.table, .slice b1 qb.cols.length d1, .slice b2 qb.conds.length d2, .string qb.order, .bool qb.desc, .int .i64 qb.limit]
  have hbW : Below w.heap.size w W0 := by
    rw [hW0]; exact ((Below.refl _ _).alloc (Nat.le_refl _) _).alloc (by simp) _
  have z0 : W0.heap.size = w.heap.size + 2 := by rw [hW0]; simp
  rw [← hW0]
  clear hW0
  refine (szQuery_q qa _ 1048576 W0 (by omega) (by omega) hqa (QA.out _ hbW)).mono ?_
  rintro e w1 ⟨r1, hr1, rfl, hb1⟩
  have hbw1 := hbW.trans (hb1.mono hbW.size)
  have bA1 := bA.below hb1 (by omega)
  have bB1 := bB.below hb1 (by omega)
  have zz1 := hb1.size
  clear bA bB hb1
  by_cases k1 : r1 < 0
  · clear hr1
    go_wp2_with fail
    go_ret
    exact ⟨rfl, hbw1⟩
  have E1 := Lib.hid (show r1 = 1048576 - queryNeed qa from by omega)
  have hle1 : r1 ≤ 1048576 := by omega
  clear hr1
  have y0 := bB1.cell 0
  have y1 := bB1.cell 1
  have y2 := bB1.cell 2
  have y3 := bB1.cell 3
  have y4 := bB1.cell 4
  have y5 := bB1.cell 5
  simp at y0 y1 y2 y3 y4 y5
  go_wp2_with fail
  refine (szQuery_q qb _ r1 w1 (by omega) (by omega) hqb (QB.out _ hbw1)).mono ?_
  rintro e w2 ⟨r2, hr2, rfl, hb2⟩
  have hbw2 := hbw1.trans (hb2.mono hbw1.size)
  have bA2 := bA1.below hb2 (by omega)
  have bB2 := bB1.below hb2 (by omega)
  have zz2 := hb2.size
  clear bA1 bB1 hb2 hbw1 y0 y1 y2 y3 y4 y5
  by_cases k2 : r2 < 0
  · clear hr2
    go_wp2_with fail
    go_ret
    exact ⟨rfl, hbw2⟩
  have la1 : qa.cols.length ≤ 1048576 := by have := na.out; have := E1.out; omega
  have la2 : qa.conds.length ≤ 1048576 := by have := na.out; have := E1.out; omega
  have lb1 : qb.cols.length ≤ 1048576 := by have := nb.out; omega
  have lb2 : qb.conds.length ≤ 1048576 := by have := nb.out; omega
  clear hr2
  have x0 := bA2.cell 0
  have x1 := bA2.cell 1
  have x2 := bA2.cell 2
  have x3 := bA2.cell 3
  have x4 := bA2.cell 4
  have x5 := bA2.cell 5
  have y0 := bB2.cell 0
  have y1 := bB2.cell 1
  have y2 := bB2.cell 2
  have y3 := bB2.cell 3
  have y4 := bB2.cell 4
  have y5 := bB2.cell 5
  simp at x0 x1 x2 x3 x4 x5 y0 y1 y2 y3 y4 y5
  obtain ⟨r, hr⟩ : ∃ r, sameQ qa qb = r := ⟨_, rfl⟩
  have HR := Lib.hid hr
  clear hr
  go_wp2_with fail
  have zz : w.heap.size + 2 ≤ w2.heap.size := by omega
  go_region_held3 (fun w' => w'.cell? ⟨w.heap.size, 0, none⟩ = some (.string qa.table) ∧ w'.cell? ⟨w.heap.size, 1, none⟩ = some (.slice a1 qa.cols.length c1) ∧ w'.cell? ⟨w.heap.size, 2, none⟩ = some (.slice a2 qa.conds.length c2) ∧ w'.cell? ⟨w.heap.size, 3, none⟩ = some (.string qa.order) ∧ w'.cell? ⟨w.heap.size, 4, none⟩ = some (.bool qa.desc) ∧ w'.cell? ⟨w.heap.size, 5, none⟩ = some (.int .i64 qa.limit) ∧ w'.cell? ⟨w.heap.size + 1, 0, none⟩ = some (.string qb.table) ∧ w'.cell? ⟨w.heap.size + 1, 1, none⟩ = some (.slice b1 qb.cols.length d1) ∧ w'.cell? ⟨w.heap.size + 1, 2, none⟩ = some (.slice b2 qb.conds.length d2) ∧ w'.cell? ⟨w.heap.size + 1, 3, none⟩ = some (.string qb.order) ∧ w'.cell? ⟨w.heap.size + 1, 4, none⟩ = some (.bool qb.desc) ∧ w'.cell? ⟨w.heap.size + 1, 5, none⟩ = some (.int .i64 qb.limit) ∧ Blk w' (w.heap.size) 31 #[.string qa.table, .slice a1 qa.cols.length c1, .slice a2 qa.conds.length c2, .string qa.order, .bool qa.desc, .int .i64 qa.limit] ∧ Blk w' (w.heap.size + 1) 31 #[.string qb.table, .slice b1 qb.cols.length d1, .slice b2 qb.conds.length d2, .string qb.order, .bool qb.desc, .int .i64 qb.limit] ∧ Below w.heap.size w w' ∧ w.heap.size + 2 ≤ w'.heap.size)
    (first | (go_split_ands; refine ⟨?_, ?_, ?_, ?_, ?_, ?_, ?_, ?_, ?_, ?_, ?_, ?_, ?_, ?_, ?_, ?_⟩ <;> first | (rw [hbc.cell (by first | omega | (simp; omega))]; assumption) | (refine Blk.below (by assumption) hbc ?_; first | omega | (simp; omega)) | (refine Below.trans ?_ (hbc.mono ?_) <;> first | assumption | exact Below.drew (by assumption) | omega | (simp; omega)) | (have := hbc.size; first | omega | (simp at this ⊢; omega))) | (refine ⟨?_, ?_, ?_, ?_, ?_, ?_, ?_, ?_, ?_, ?_, ?_, ?_, ?_, ?_, ?_, ?_⟩ <;> first | exact Below.drew (by assumption) | exact Blk.drew (by assumption) | go_keep))
    (first | (go_at_call_of 18 (Value.agg #[.string qa.table, .slice a1 qa.cols.length c1, .slice a2 qa.conds.length c2, .string qa.order, .bool qa.desc, .int .i64 qa.limit]); refine (toQuery_q qa _ _ la1 la2 ?_).mono ?_; (exact QA.out _ (by go_split_ands; assumption)); rintro e w' ⟨va, rfl, hva, hbc⟩) | (go_at_call_of 18 (Value.agg #[.string qb.table, .slice b1 qb.cols.length d1, .slice b2 qb.conds.length d2, .string qb.order, .bool qb.desc, .int .i64 qb.limit]); refine (toQuery_q qb _ _ lb1 lb2 ?_).mono ?_; (exact QB.out _ (by go_split_ands; assumption)); rintro e w' ⟨vb, rfl, hvb, hbc⟩) | (go_at_call 17; refine (sameQuery_spec_q qa qb va vb r HR.out _ la1 la2 lb1 lb2 (by first | exact hva | exact hva.below hbc) (by first | exact hvb | exact hvb.below hbc)).mono ?_; rintro e w' ⟨rfl, hbc⟩))
  obtain ⟨w3, rfl⟩ : ∃ w3 : World, w3 = w' := ⟨_, rfl⟩
  have bA3 : Blk w3 w.heap.size 31 #[.string qa.table, .slice a1 qa.cols.length c1, .slice a2 qa.conds.length c2, .string qa.order, .bool qa.desc, .int .i64 qa.limit] := by go_split_ands; assumption
  have bB3 : Blk w3 (w.heap.size + 1) 31 #[.string qb.table, .slice b1 qb.cols.length d1, .slice b2 qb.conds.length d2, .string qb.order, .bool qb.desc, .int .i64 qb.limit] := by go_split_ands; assumption
  have hbw3 : Below w.heap.size w w3 := by go_split_ands; assumption
  have zz3 : w.heap.size + 2 ≤ w3.heap.size := by go_split_ands; assumption
  clear hva hvb hbc bA2 bB2 hbw2 zz1 zz2 z0 hbW
  go_split_ands
  go_wp2_with fail
  refine (toQuery_q qa _ _ la1 la2 (QA.out _ hbw3)).mono ?_
  rintro e w4 ⟨v4, rfl, ⟨e1, f1, e2, f2, rfl, re1, re2⟩, hb4⟩
  have bB4 := bB3.below hb4 (by omega)
  have bA4 := bA3.below hb4 (by omega)
  have hbw4 := hbw3.trans (hb4.mono hbw3.size)
  have zz4 := hb4.size
  unfold qAgg
  have y0 := fun o => (bB4.alloc o).cell 0
  have y1 := fun o => (bB4.alloc o).cell 1
  have y2 := fun o => (bB4.alloc o).cell 2
  have y3 := fun o => (bB4.alloc o).cell 3
  have y4 := fun o => (bB4.alloc o).cell 4
  have y5 := fun o => (bB4.alloc o).cell 5
  simp at y0 y1 y2 y3 y4 y5
  go_wp2_with fail
  refine (toQuery_q qb _ _ lb1 lb2 (QB.out _ (hbw4.alloc hbw4.size _))).mono ?_
  rintro e w5 ⟨v5, rfl, ⟨g1, h1, g2, h2, rfl, rg1, rg2⟩, hb5⟩
  have bX5 := (Blk.new w4 36 #[.string qa.table, .slice e1 qa.cols.length f1, .slice e2 qa.conds.length f2, .string qa.order, .bool qa.desc, .int .i64 qa.limit]).below hb5 (by simp)
  have bB5 := (bB4.alloc (.cells #[.string qa.table, .slice e1 qa.cols.length f1, .slice e2 qa.conds.length f2, .string qa.order, .bool qa.desc, .int .i64 qa.limit] 36)).below hb5 (by simp; omega)
  have bA5 := (bA4.alloc (.cells #[.string qa.table, .slice e1 qa.cols.length f1, .slice e2 qa.conds.length f2, .string qa.order, .bool qa.desc, .int .i64 qa.limit] 36)).below hb5 (by simp; omega)
  have hbw5 : Below w.heap.size w w5 := (hbw4.alloc hbw4.size _).trans (hb5.mono (by simp; omega))
  have zz5 : w4.heap.size + 1 ≤ w5.heap.size := by have := hb5.size; simpa using this
  have hx5 : Below w4.heap.size w4 w5 := ((Below.refl _ _).alloc (Nat.le_refl _) _).trans (hb5.mono (by simp))
  clear y0 y1 y2 y3 y4 y5
  unfold qAgg
  have p0 := fun o => (bX5.alloc o).cell 0
  have p1 := fun o => (bX5.alloc o).cell 1
  have p2 := fun o => (bX5.alloc o).cell 2
  have p3 := fun o => (bX5.alloc o).cell 3
  have p4 := fun o => (bX5.alloc o).cell 4
  have p5 := fun o => (bX5.alloc o).cell 5
  simp at p0 p1 p2 p3 p4 p5
  have bX6 := bX5.alloc (.cells #[.string qb.table, .slice g1 qb.cols.length h1, .slice g2 qb.conds.length h2, .string qb.order, .bool qb.desc, .int .i64 qb.limit] 36)
  have bA6 := bA5.alloc (.cells #[.string qb.table, .slice g1 qb.cols.length h1, .slice g2 qb.conds.length h2, .string qb.order, .bool qb.desc, .int .i64 qb.limit] 36)
  have bB6 := bB5.alloc (.cells #[.string qb.table, .slice g1 qb.cols.length h1, .slice g2 qb.conds.length h2, .string qb.order, .bool qb.desc, .int .i64 qb.limit] 36)
  have bY6 := Blk.new w5 36 #[.string qb.table, .slice g1 qb.cols.length h1, .slice g2 qb.conds.length h2, .string qb.order, .bool qb.desc, .int .i64 qb.limit]
  have hbw6 := hbw5.alloc hbw5.size (.cells #[.string qb.table, .slice g1 qb.cols.length h1, .slice g2 qb.conds.length h2, .string qb.order, .bool qb.desc, .int .i64 qb.limit] 36)
  have qx6 : QAt (w5.alloc (.cells #[.string qb.table, .slice g1 qb.cols.length h1, .slice g2 qb.conds.length h2, .string qb.order, .bool qb.desc, .int .i64 qb.limit] 36)) (.agg #[.string qa.table, .slice e1 qa.cols.length f1, .slice e2 qa.conds.length f2, .string qa.order, .bool qa.desc, .int .i64 qa.limit]) qa := ⟨e1, f1, e2, f2, rfl, (re1.below (hx5.alloc (by omega) _)).more (by simp; omega), (re2.below (hx5.alloc (by omega) _)).more (by simp; omega)⟩
  have qy6 : QAt (w5.alloc (.cells #[.string qb.table, .slice g1 qb.cols.length h1, .slice g2 qb.conds.length h2, .string qb.order, .bool qb.desc, .int .i64 qb.limit] 36)) (.agg #[.string qb.table, .slice g1 qb.cols.length h1, .slice g2 qb.conds.length h2, .string qb.order, .bool qb.desc, .int .i64 qb.limit]) qb := ⟨g1, h1, g2, h2, rfl, (rg1.alloc (Nat.le_refl _) _).more (by simp), (rg2.alloc (Nat.le_refl _) _).more (by simp)⟩
  go_wp2_with fail
  have QX6 := Lib.hid qx6
  have QY6 := Lib.hid qy6
  clear qx6 qy6 hx5 rg1 rg2 re1 re2 bX5 bA5 bB5 bA4 bB4 bA3 bB3 hbw3 hbw4 hb5 hb4
  obtain ⟨w6, hw6⟩ : ∃ w6, w6 = w5.alloc (.cells #[.string qb.table, .slice g1 qb.cols.length h1, .slice g2 qb.conds.length h2, .string qb.order, .bool qb.desc, .int .i64 qb.limit] 36) := ⟨_, rfl⟩
  have zz6 : w6.heap.size = w5.heap.size + 1 := by rw [hw6]; simp
  rw [← hw6] at QX6 QY6 bX6 bA6 bB6 bY6 hbw6
  rw [← hw6]
  clear hw6 hbw5
  refine (sameQuery_impl_q qa qb _ _ r HR.out w6 la1 la2 lb1 lb2 QX6.out QY6.out).mono ?_
  rintro e w7 ⟨rfl, hb7⟩
  have QX := Lib.hid (fun W (hb : Below w7.heap.size w7 W) => (QX6.out.below hb7).below hb)
  have QY := Lib.hid (fun W (hb : Below w7.heap.size w7 W) => (QY6.out.below hb7).below hb)
  have bX7 := bX6.below hb7 (by omega)
  have bY7 := bY6.below hb7 (by omega)
  have bA7 := bA6.below hb7 (by omega)
  have bB7 := bB6.below hb7 (by omega)
  have hbw7 := hbw6.trans (hb7.mono hbw6.size)
  have zz7 : w5.heap.size + 1 ≤ w7.heap.size := by have := hb7.size; omega
  have hrr : (r != r) = false := by cases r <;> rfl
  clear bX6 bY6 bA6 bB6 hbw6 hb7 p0 p1 p2 p3 p4 p5
  have x0 := bA7.cell 0
  have x1 := bA7.cell 1
  have x2 := bA7.cell 2
  have x3 := bA7.cell 3
  have x4 := bA7.cell 4
  have x5 := bA7.cell 5
  simp at x0 x1 x2 x3 x4 x5
  have y0 := bB7.cell 0
  have y1 := bB7.cell 1
  have y2 := bB7.cell 2
  have y3 := bB7.cell 3
  have y4 := bB7.cell 4
  have y5 := bB7.cell 5
  simp at y0 y1 y2 y3 y4 y5
  have p0 := bX7.cell 0
  have p1 := bX7.cell 1
  have p2 := bX7.cell 2
  have p3 := bX7.cell 3
  have p4 := bX7.cell 4
  have p5 := bX7.cell 5
  simp at p0 p1 p2 p3 p4 p5
  have q0 := bY7.cell 0
  have q1 := bY7.cell 1
  have q2 := bY7.cell 2
  have q3 := bY7.cell 3
  have q4 := bY7.cell 4
  have q5 := bY7.cell 5
  simp at q0 q1 q2 q3 q4 q5
  go_wp2_with fail
  have hb77 : Below w7.heap.size w7 w7 := Below.refl _ _
  have zz77 : w7.heap.size ≤ w7.heap.size := Nat.le_refl _
  go_region_held3 (fun w' => w'.cell? ⟨w.heap.size, 0, none⟩ = some (.string qa.table) ∧ w'.cell? ⟨w.heap.size, 1, none⟩ = some (.slice a1 qa.cols.length c1) ∧ w'.cell? ⟨w.heap.size, 2, none⟩ = some (.slice a2 qa.conds.length c2) ∧ w'.cell? ⟨w.heap.size, 3, none⟩ = some (.string qa.order) ∧ w'.cell? ⟨w.heap.size, 4, none⟩ = some (.bool qa.desc) ∧ w'.cell? ⟨w.heap.size, 5, none⟩ = some (.int .i64 qa.limit) ∧ w'.cell? ⟨w4.heap.size, 0, none⟩ = some (.string qa.table) ∧ w'.cell? ⟨w4.heap.size, 1, none⟩ = some (.slice e1 qa.cols.length f1) ∧ w'.cell? ⟨w4.heap.size, 2, none⟩ = some (.slice e2 qa.conds.length f2) ∧ w'.cell? ⟨w4.heap.size, 3, none⟩ = some (.string qa.order) ∧ w'.cell? ⟨w4.heap.size, 4, none⟩ = some (.bool qa.desc) ∧ w'.cell? ⟨w4.heap.size, 5, none⟩ = some (.int .i64 qa.limit) ∧ Blk w' (w.heap.size) 31 #[.string qa.table, .slice a1 qa.cols.length c1, .slice a2 qa.conds.length c2, .string qa.order, .bool qa.desc, .int .i64 qa.limit] ∧ Blk w' (w.heap.size + 1) 31 #[.string qb.table, .slice b1 qb.cols.length d1, .slice b2 qb.conds.length d2, .string qb.order, .bool qb.desc, .int .i64 qb.limit] ∧ Blk w' (w4.heap.size) 36 #[.string qa.table, .slice e1 qa.cols.length f1, .slice e2 qa.conds.length f2, .string qa.order, .bool qa.desc, .int .i64 qa.limit] ∧ Blk w' (w5.heap.size) 36 #[.string qb.table, .slice g1 qb.cols.length h1, .slice g2 qb.conds.length h2, .string qb.order, .bool qb.desc, .int .i64 qb.limit] ∧ Below w.heap.size w w' ∧ Below w7.heap.size w7 w' ∧ w5.heap.size + 1 ≤ w'.heap.size ∧ w7.heap.size ≤ w'.heap.size)
    (first | (go_split_ands; refine ⟨?_, ?_, ?_, ?_, ?_, ?_, ?_, ?_, ?_, ?_, ?_, ?_, ?_, ?_, ?_, ?_, ?_, ?_, ?_, ?_⟩ <;> first | (rw [hbc.cell (by first | omega | (simp; omega))]; assumption) | (refine Blk.below (by assumption) hbc ?_; first | omega | (simp; omega)) | (refine Below.trans ?_ (hbc.mono ?_) <;> first | assumption | exact Below.drew (by assumption) | omega | (simp; omega)) | (have := hbc.size; first | omega | (simp at this ⊢; omega))) | (refine ⟨?_, ?_, ?_, ?_, ?_, ?_, ?_, ?_, ?_, ?_, ?_, ?_, ?_, ?_, ?_, ?_, ?_, ?_, ?_, ?_⟩ <;> first | exact Below.drew (by assumption) | exact Blk.drew (by assumption) | go_keep))
    (first | (go_at_call 18; refine (toQuery_q qa _ _ la1 la2 ?_).mono ?_; (exact QA.out _ (by go_split_ands; assumption)); rintro e w' ⟨va, rfl, hva, hbc⟩) | (go_at_call 20; refine (eqQuery_q qa _ va _ la1 la2 ?_ hva).mono ?_; (exact QX.out _ (by go_split_ands; assumption)); rintro e w' ⟨rfl, hbc⟩))
  obtain ⟨w8, rfl⟩ : ∃ w8 : World, w8 = w' := ⟨_, rfl⟩
  have bB8 : Blk w8 (w.heap.size + 1) 31 #[.string qb.table, .slice b1 qb.cols.length d1, .slice b2 qb.conds.length d2, .string qb.order, .bool qb.desc, .int .i64 qb.limit] := by go_split_ands; assumption
  have bY8 : Blk w8 w5.heap.size 36 #[.string qb.table, .slice g1 qb.cols.length h1, .slice g2 qb.conds.length h2, .string qb.order, .bool qb.desc, .int .i64 qb.limit] := by go_split_ands; assumption
  have hbw8 : Below w.heap.size w w8 := by go_split_ands; assumption
  have hb78 : Below w7.heap.size w7 w8 := by go_split_ands; assumption
  have zz8 : w5.heap.size + 1 ≤ w8.heap.size := by go_split_ands; assumption
  have zz78 : w7.heap.size ≤ w8.heap.size := hb78.size
  clear hb77 zz77
  have y0' := bB8.cell 0
  have y1' := bB8.cell 1
  have y2' := bB8.cell 2
  have y3' := bB8.cell 3
  have y4' := bB8.cell 4
  have y5' := bB8.cell 5
  have q0' := bY8.cell 0
  have q1' := bY8.cell 1
  have q2' := bY8.cell 2
  have q3' := bY8.cell 3
  have q4' := bY8.cell 4
  have q5' := bY8.cell 5
  simp at y0' q0' y1' q1' y2' q2' y3' q3' y4' q4' y5' q5'
  go_wp2_with fail
  go_region_held3 (fun w' => w'.cell? ⟨w.heap.size + 1, 0, none⟩ = some (.string qb.table) ∧ w'.cell? ⟨w.heap.size + 1, 1, none⟩ = some (.slice b1 qb.cols.length d1) ∧ w'.cell? ⟨w.heap.size + 1, 2, none⟩ = some (.slice b2 qb.conds.length d2) ∧ w'.cell? ⟨w.heap.size + 1, 3, none⟩ = some (.string qb.order) ∧ w'.cell? ⟨w.heap.size + 1, 4, none⟩ = some (.bool qb.desc) ∧ w'.cell? ⟨w.heap.size + 1, 5, none⟩ = some (.int .i64 qb.limit) ∧ w'.cell? ⟨w5.heap.size, 0, none⟩ = some (.string qb.table) ∧ w'.cell? ⟨w5.heap.size, 1, none⟩ = some (.slice g1 qb.cols.length h1) ∧ w'.cell? ⟨w5.heap.size, 2, none⟩ = some (.slice g2 qb.conds.length h2) ∧ w'.cell? ⟨w5.heap.size, 3, none⟩ = some (.string qb.order) ∧ w'.cell? ⟨w5.heap.size, 4, none⟩ = some (.bool qb.desc) ∧ w'.cell? ⟨w5.heap.size, 5, none⟩ = some (.int .i64 qb.limit) ∧ Blk w' (w.heap.size + 1) 31 #[.string qb.table, .slice b1 qb.cols.length d1, .slice b2 qb.conds.length d2, .string qb.order, .bool qb.desc, .int .i64 qb.limit] ∧ Blk w' (w5.heap.size) 36 #[.string qb.table, .slice g1 qb.cols.length h1, .slice g2 qb.conds.length h2, .string qb.order, .bool qb.desc, .int .i64 qb.limit] ∧ Below w.heap.size w w' ∧ Below w7.heap.size w7 w' ∧ w5.heap.size + 1 ≤ w'.heap.size ∧ w7.heap.size ≤ w'.heap.size)
    (first | (go_split_ands; refine ⟨?_, ?_, ?_, ?_, ?_, ?_, ?_, ?_, ?_, ?_, ?_, ?_, ?_, ?_, ?_, ?_, ?_, ?_⟩ <;> first | (rw [hbc.cell (by first | omega | (simp; omega))]; assumption) | (refine Blk.below (by assumption) hbc ?_; first | omega | (simp; omega)) | (refine Below.trans ?_ (hbc.mono ?_) <;> first | assumption | exact Below.drew (by assumption) | omega | (simp; omega)) | (have := hbc.size; first | omega | (simp at this ⊢; omega))) | (refine ⟨?_, ?_, ?_, ?_, ?_, ?_, ?_, ?_, ?_, ?_, ?_, ?_, ?_, ?_, ?_, ?_, ?_, ?_⟩ <;> first | exact Below.drew (by assumption) | exact Blk.drew (by assumption) | go_keep))
    (first | (go_at_call 18; refine (toQuery_q qb _ _ lb1 lb2 ?_).mono ?_; (exact QB.out _ (by go_split_ands; assumption)); rintro e w' ⟨va, rfl, hva, hbc⟩) | (go_at_call 20; refine (eqQuery_q qb _ va _ lb1 lb2 ?_ hva).mono ?_; (exact QY.out _ (by go_split_ands; assumption)); rintro e w' ⟨rfl, hbc⟩))
  have hbw9 : Below w.heap.size w w' := by go_split_ands; assumption
  go_wp2_with fail
  go_ret
  exact ⟨rfl, hbw9⟩
end Go.Proofs.Ytajchbafolgcoaa
