/- The walk of the law FnExactPlanFits. -/
import Derived.Test.YtfaphgpelkkccaaPlanFitsS
namespace Go.Proofs.Ytfaphgpelkkccaa
open Go.RowKit
set_option linter.unusedVariables false


set_option maxHeartbeats 8000000 in
theorem FnExactPlanFits_walk (x0 : TableV) (v0 : Value) (x1 : QueryV) (v1 : Value) (x2 : PlanV) (v2 : Value) (w : World) (hw0 : TableWf x0) (hw1 : QueryWf x1) (hw2 : PlanWf x2) (at0 : TableAt w v0 x0) (at1 : QAt w v1 x1) (at2 : PlanAt w v2 x2) :
    Calls Try.prog 6 #[v0, v1, v2] w fun e w' => e = .returned (.bool true) ∧ Below w.heap.size w w' := by
  obtain ⟨p0s0, p0s1, p0a2, p0n2, p0c2, p0a3, p0n3, p0c3, rfl⟩ := TableAt_agg at0
  have A0 := Lib.hid (fun W (hb : Below w.heap.size w W) => at0.below tableE_good hb)
  clear at0
  obtain ⟨p1s0, p1a1, p1n1, p1c1, p1a2, p1n2, p1c2, p1s3, p1b4, p1i5, rfl⟩ := at1.agg
  have A1 := Lib.hid (fun W (hb : Below w.heap.size w W) => at1.below hb)
  clear at1
  obtain ⟨p2i0, p2s1, p2s2, rfl⟩ := PlanAt_agg at2
  have A2 := Lib.hid (fun W (hb : Below w.heap.size w W) => at2.below planE_good hb)
  clear at2
  go_enter Try.func6, Try.ntmps6
  go_wp2_with fail
  obtain ⟨W0, hW0⟩ : ∃ W0, W0 = (((w.alloc (.cells #[.string p0s0, .string p0s1, .slice p0a2 p0n2 p0c2, .slice p0a3 p0n3 p0c3] 35)).alloc (.cells #[.string p1s0, .slice p1a1 p1n1 p1c1, .slice p1a2 p1n2 p1c2, .string p1s3, .bool p1b4, .int .i64 p1i5] 25)).alloc (.cells #[.int .i64 p2i0, .string p2s1, .string p2s2] 47)) := ⟨_, rfl⟩
  have bp0 : Blk W0 (w.heap.size) 35 #[.string p0s0, .string p0s1, .slice p0a2 p0n2 p0c2, .slice p0a3 p0n3 p0c3] := by rw [hW0]; exact ((Blk.new w 35 #[.string p0s0, .string p0s1, .slice p0a2 p0n2 p0c2, .slice p0a3 p0n3 p0c3]).alloc _).alloc _
  have bp1 : Blk W0 (w.heap.size + 1) 25 #[.string p1s0, .slice p1a1 p1n1 p1c1, .slice p1a2 p1n2 p1c2, .string p1s3, .bool p1b4, .int .i64 p1i5] := by rw [hW0]; exact (by simpa using Blk.new (w.alloc (.cells #[.string p0s0, .string p0s1, .slice p0a2 p0n2 p0c2, .slice p0a3 p0n3 p0c3] 35)) 25 #[.string p1s0, .slice p1a1 p1n1 p1c1, .slice p1a2 p1n2 p1c2, .string p1s3, .bool p1b4, .int .i64 p1i5] : Blk _ (w.heap.size + 1) _ _).alloc _
  have bp2 : Blk W0 (w.heap.size + 1 + 1) 47 #[.int .i64 p2i0, .string p2s1, .string p2s2] := by rw [hW0]; exact (by simpa using Blk.new ((w.alloc (.cells #[.string p0s0, .string p0s1, .slice p0a2 p0n2 p0c2, .slice p0a3 p0n3 p0c3] 35)).alloc (.cells #[.string p1s0, .slice p1a1 p1n1 p1c1, .slice p1a2 p1n2 p1c2, .string p1s3, .bool p1b4, .int .i64 p1i5] 25)) 47 #[.int .i64 p2i0, .string p2s1, .string p2s2] : Blk _ (w.heap.size + 1 + 1) _ _)
  have hb0 : Below w.heap.size w W0 := by rw [hW0]; exact ((((Below.refl w.heap.size w).alloc (Nat.le_refl _) _).alloc (by simp) _).alloc (by simp; omega) _)
  have z0 : w.heap.size + 3 ≤ W0.heap.size := by rw [hW0]; simp
  rw [← hW0]
  clear hW0
  refine (szTable_q x0 _ 1048576 W0 (by omega) (by omega) hw0 (A0.out _ hb0)).mono ?_
  rintro e w1 ⟨r1, hr1, rfl, hc1⟩
  have hb1 := hb0.trans (hc1.mono hb0.size)
  replace bp0 := bp0.below hc1 (by omega)
  replace bp1 := bp1.below hc1 (by omega)
  replace bp2 := bp2.below hc1 (by omega)
  have z1 : w.heap.size + 3 ≤ w1.heap.size := Nat.le_trans z0 hc1.size
  clear hc1
  by_cases k1 : r1 < 0
  · clear hr1
    go_wp2_with fail
    go_ret
    exact ⟨rfl, hb1⟩
  have N0 := Lib.hid (show tableNeed x0 ≤ 1048576 from by omega)
  have l1 : r1 ≤ 1048576 := by omega
  clear hr1
  obtain ⟨y0, y1, y2, y3, y4, y5⟩ := bp1.c6
  go_wp2_with fail
  refine (szQuery_q x1 _ r1 w1 (by omega) (by omega) hw1 (A1.out _ hb1)).mono ?_
  rintro e w2 ⟨r2, hr2, rfl, hc2⟩
  have hb2 := hb1.trans (hc2.mono hb1.size)
  replace bp0 := bp0.below hc2 (by omega)
  replace bp1 := bp1.below hc2 (by omega)
  replace bp2 := bp2.below hc2 (by omega)
  have z2 : w.heap.size + 3 ≤ w2.heap.size := Nat.le_trans z1 hc2.size
  clear hc2 y0 y1 y2 y3 y4 y5
  by_cases k2 : r2 < 0
  · clear hr2
    go_wp2_with fail
    go_ret
    exact ⟨rfl, hb2⟩
  have N1 := Lib.hid (show queryNeed x1 ≤ 1048576 from by omega)
  have l2 : r2 ≤ 1048576 := by omega
  clear hr2
  obtain ⟨y0, y1, y2⟩ := bp2.c3
  go_wp2_with fail
  refine (szPlan_q x2 _ r2 w2 (by omega) (by omega) hw2 (A2.out _ hb2)).mono ?_
  rintro e w3 ⟨r3, hr3, rfl, hc3⟩
  have hb3 := hb2.trans (hc3.mono hb2.size)
  replace bp0 := bp0.below hc3 (by omega)
  replace bp1 := bp1.below hc3 (by omega)
  replace bp2 := bp2.below hc3 (by omega)
  have z3 : w.heap.size + 3 ≤ w3.heap.size := Nat.le_trans z2 hc3.size
  clear hc3 y0 y1 y2
  by_cases k3 : r3 < 0
  · clear hr3
    go_wp2_with fail
    go_ret
    exact ⟨rfl, hb3⟩
  have N2 := Lib.hid (show planNeed x2 ≤ 1048576 from by omega)
  have l3 : r3 ≤ 1048576 := by omega
  clear hr3
  obtain ⟨r, hr⟩ : ∃ r, planFitsB x0 x1 x2 = r := ⟨_, rfl⟩
  have HR := Lib.hid hr
  clear hr
  obtain ⟨y0_0, y0_1, y0_2, y0_3⟩ := bp0.c4
  obtain ⟨y1_0, y1_1, y1_2, y1_3, y1_4, y1_5⟩ := bp1.c6
  obtain ⟨y2_0, y2_1, y2_2⟩ := bp2.c3
  go_wp2_with fail
  have zz := z3
  have hbb := hb3
  go_region_held3 (fun w' => w'.cell? ⟨w.heap.size, 0, none⟩ = some (.string p0s0) ∧ w'.cell? ⟨w.heap.size, 1, none⟩ = some (.string p0s1) ∧ w'.cell? ⟨w.heap.size, 2, none⟩ = some (.slice p0a2 p0n2 p0c2) ∧ w'.cell? ⟨w.heap.size, 3, none⟩ = some (.slice p0a3 p0n3 p0c3) ∧ w'.cell? ⟨w.heap.size + 1, 0, none⟩ = some (.string p1s0) ∧ w'.cell? ⟨w.heap.size + 1, 1, none⟩ = some (.slice p1a1 p1n1 p1c1) ∧ w'.cell? ⟨w.heap.size + 1, 2, none⟩ = some (.slice p1a2 p1n2 p1c2) ∧ w'.cell? ⟨w.heap.size + 1, 3, none⟩ = some (.string p1s3) ∧ w'.cell? ⟨w.heap.size + 1, 4, none⟩ = some (.bool p1b4) ∧ w'.cell? ⟨w.heap.size + 1, 5, none⟩ = some (.int .i64 p1i5) ∧ w'.cell? ⟨w.heap.size + 1 + 1, 0, none⟩ = some (.int .i64 p2i0) ∧ w'.cell? ⟨w.heap.size + 1 + 1, 1, none⟩ = some (.string p2s1) ∧ w'.cell? ⟨w.heap.size + 1 + 1, 2, none⟩ = some (.string p2s2) ∧ Blk w' (w.heap.size) 35 #[.string p0s0, .string p0s1, .slice p0a2 p0n2 p0c2, .slice p0a3 p0n3 p0c3] ∧ Blk w' (w.heap.size + 1) 25 #[.string p1s0, .slice p1a1 p1n1 p1c1, .slice p1a2 p1n2 p1c2, .string p1s3, .bool p1b4, .int .i64 p1i5] ∧ Blk w' (w.heap.size + 1 + 1) 47 #[.int .i64 p2i0, .string p2s1, .string p2s2] ∧ Below w.heap.size w w' ∧ w.heap.size + 3 ≤ w'.heap.size)
    (first | (go_split_ands; refine ⟨?_, ?_, ?_, ?_, ?_, ?_, ?_, ?_, ?_, ?_, ?_, ?_, ?_, ?_, ?_, ?_, ?_, ?_⟩ <;> first | (rw [hbc.cell (by first | omega | (simp; omega))]; assumption) | (refine Blk.below (by assumption) hbc ?_; first | omega | (simp; omega)) | (refine Below.trans ?_ (hbc.mono ?_) <;> first | assumption | exact Below.drew (by assumption) | omega | (simp; omega)) | (have := hbc.size; first | omega | (simp at this ⊢; omega))) | (refine ⟨?_, ?_, ?_, ?_, ?_, ?_, ?_, ?_, ?_, ?_, ?_, ?_, ?_, ?_, ?_, ?_, ?_, ?_⟩ <;> first | exact Below.drew (by assumption) | exact Blk.drew (by assumption) | go_keep))
    (first | (go_at_call_of 14 (Value.agg #[.string p0s0, .string p0s1, .slice p0a2 p0n2 p0c2, .slice p0a3 p0n3 p0c3]); refine (toTable_q x0 _ _ N0.out ?_).mono ?_; (exact A0.out _ (by go_split_ands; assumption)); rintro e w' ⟨va0, rfl, hva0, hbc⟩; have hbk0 := hbc) | (go_at_call_of 9 (Value.agg #[.string p1s0, .slice p1a1 p1n1 p1c1, .slice p1a2 p1n2 p1c2, .string p1s3, .bool p1b4, .int .i64 p1i5]); refine (toQuery_q x1 _ _ N1.out ?_).mono ?_; (exact A1.out _ (by go_split_ands; assumption)); rintro e w' ⟨va1, rfl, hva1, hbc⟩; have hbk1 := hbc) | (go_at_call_of 22 (Value.agg #[.int .i64 p2i0, .string p2s1, .string p2s2]); refine (toPlan_q x2 _ _ N2.out ?_).mono ?_; (exact A2.out _ (by go_split_ands; assumption)); rintro e w' ⟨va2, rfl, hva2, hbc⟩; have hbk2 := hbc) | (go_at_call 21; refine (planFits_spec x0 x1 x2 r HR.out va0 va1 va2 _ hw0 hw1 N0.out N1.out (by first | exact hva0 | exact (hva0.below tableE_good hbk1) | exact (hva0.below tableE_good hbk2) | exact ((hva0.below tableE_good hbk1).below tableE_good hbk2) | exact ((hva0.below tableE_good hbk2).below tableE_good hbk1)) (by first | exact hva1 | exact (hva1.below hbk0) | exact (hva1.below hbk2) | exact ((hva1.below hbk0).below hbk2) | exact ((hva1.below hbk2).below hbk0)) (by first | exact hva2 | exact (hva2.below planE_good hbk0) | exact (hva2.below planE_good hbk1) | exact ((hva2.below planE_good hbk0).below planE_good hbk1) | exact ((hva2.below planE_good hbk1).below planE_good hbk0))).mono ?_; rintro e w' ⟨rfl, hbc⟩))
  obtain ⟨wb, rfl⟩ : ∃ wb : World, wb = w' := ⟨_, rfl⟩
  clear hva0 hva1 hva2 bp0 bp1 bp2 hb0 hb1 hb2 hb3 z0 z1 z2 z3 hbb zz hbc y0_0 y0_1 y0_2 y0_3 y1_0 y1_1 y1_2 y1_3 y1_4 y1_5 y2_0 y2_1 y2_2
  have bp0 : Blk wb (w.heap.size) 35 #[.string p0s0, .string p0s1, .slice p0a2 p0n2 p0c2, .slice p0a3 p0n3 p0c3] := by go_split_ands; assumption
  have bp1 : Blk wb (w.heap.size + 1) 25 #[.string p1s0, .slice p1a1 p1n1 p1c1, .slice p1a2 p1n2 p1c2, .string p1s3, .bool p1b4, .int .i64 p1i5] := by go_split_ands; assumption
  have bp2 : Blk wb (w.heap.size + 1 + 1) 47 #[.int .i64 p2i0, .string p2s1, .string p2s2] := by go_split_ands; assumption
  have hbb : Below w.heap.size w wb := by go_split_ands; assumption
  have zb : w.heap.size + 3 ≤ wb.heap.size := by go_split_ands; assumption
  have y0 : wb.cell? ⟨w.heap.size, 0, none⟩ = some (.string p0s0) := bp0.cell 0
  have y1 : wb.cell? ⟨w.heap.size, 1, none⟩ = some (.string p0s1) := bp0.cell 1
  have y2 : wb.cell? ⟨w.heap.size, 2, none⟩ = some (.slice p0a2 p0n2 p0c2) := bp0.cell 2
  have y3 : wb.cell? ⟨w.heap.size, 3, none⟩ = some (.slice p0a3 p0n3 p0c3) := bp0.cell 3
  go_wp2_with fail
  refine (toTable_q x0 _ _ N0.out (A0.out _ hbb)).mono ?_
  rintro e u0 ⟨vx0, rfl, hx0, hc⟩
  have hbu0 := hbb.trans (hc.mono hbb.size)
  replace bp0 := bp0.below hc (by omega)
  replace bp1 := bp1.below hc (by omega)
  replace bp2 := bp2.below hc (by omega)
  have zu0 : w.heap.size + 3 ≤ u0.heap.size := Nat.le_trans zb hc.size
  clear hc y0 y1 y2 y3
  obtain ⟨x0s0, x0s1, x0a2, x0n2, x0c2, x0a3, x0n3, x0c3, rfl⟩ := TableAt_agg hx0
  have y0 : ∀ o, (u0.alloc o).cell? ⟨w.heap.size + 1, 0, none⟩ = some (.string p1s0) := fun o => (bp1.alloc o).cell 0
  have y1 : ∀ o, (u0.alloc o).cell? ⟨w.heap.size + 1, 1, none⟩ = some (.slice p1a1 p1n1 p1c1) := fun o => (bp1.alloc o).cell 1
  have y2 : ∀ o, (u0.alloc o).cell? ⟨w.heap.size + 1, 2, none⟩ = some (.slice p1a2 p1n2 p1c2) := fun o => (bp1.alloc o).cell 2
  have y3 : ∀ o, (u0.alloc o).cell? ⟨w.heap.size + 1, 3, none⟩ = some (.string p1s3) := fun o => (bp1.alloc o).cell 3
  have y4 : ∀ o, (u0.alloc o).cell? ⟨w.heap.size + 1, 4, none⟩ = some (.bool p1b4) := fun o => (bp1.alloc o).cell 4
  have y5 : ∀ o, (u0.alloc o).cell? ⟨w.heap.size + 1, 5, none⟩ = some (.int .i64 p1i5) := fun o => (bp1.alloc o).cell 5
  go_wp2_with fail
  refine (toQuery_q x1 _ _ N1.out (A1.out _ (hbu0.alloc hbu0.size _))).mono ?_
  rintro e u1 ⟨vx1, rfl, hx1, hc⟩
  have bx0 := (Blk.new u0 38 #[.string x0s0, .string x0s1, .slice x0a2 x0n2 x0c2, .slice x0a3 x0n3 x0c3]).below hc (by simp)
  replace bp0 := (bp0.alloc (.cells #[.string x0s0, .string x0s1, .slice x0a2 x0n2 x0c2, .slice x0a3 x0n3 x0c3] 38)).below hc (by simp; omega)
  replace bp1 := (bp1.alloc (.cells #[.string x0s0, .string x0s1, .slice x0a2 x0n2 x0c2, .slice x0a3 x0n3 x0c3] 38)).below hc (by simp; omega)
  replace bp2 := (bp2.alloc (.cells #[.string x0s0, .string x0s1, .slice x0a2 x0n2 x0c2, .slice x0a3 x0n3 x0c3] 38)).below hc (by simp; omega)
  replace hx0 := (hx0.below tableE_good ((Below.refl _ _).alloc (Nat.le_refl _) (.cells #[.string x0s0, .string x0s1, .slice x0a2 x0n2 x0c2, .slice x0a3 x0n3 x0c3] 38))).below tableE_good hc
  have hbu1 := (hbu0.alloc hbu0.size (.cells #[.string x0s0, .string x0s1, .slice x0a2 x0n2 x0c2, .slice x0a3 x0n3 x0c3] 38)).trans (hc.mono (by simp; omega))
  have zu1 : w.heap.size + 3 ≤ u1.heap.size := by have := hc.size; simp at this; omega
  clear hc y0 y1 y2 y3 y4 y5
  obtain ⟨x1s0, x1a1, x1n1, x1c1, x1a2, x1n2, x1c2, x1s3, x1b4, x1i5, rfl⟩ := hx1.agg
  have y0_0 : ∀ o, (u1.alloc o).cell? ⟨u0.heap.size, 0, none⟩ = some (.string x0s0) := fun o => (bx0.alloc o).cell 0
  have y0_1 : ∀ o, (u1.alloc o).cell? ⟨u0.heap.size, 1, none⟩ = some (.string x0s1) := fun o => (bx0.alloc o).cell 1
  have y0_2 : ∀ o, (u1.alloc o).cell? ⟨u0.heap.size, 2, none⟩ = some (.slice x0a2 x0n2 x0c2) := fun o => (bx0.alloc o).cell 2
  have y0_3 : ∀ o, (u1.alloc o).cell? ⟨u0.heap.size, 3, none⟩ = some (.slice x0a3 x0n3 x0c3) := fun o => (bx0.alloc o).cell 3
  go_wp2_with fail
  obtain ⟨w6, hw6⟩ : ∃ w6, w6 = u1.alloc (.cells #[.string x1s0, .slice x1a1 x1n1 x1c1, .slice x1a2 x1n2 x1c2, .string x1s3, .bool x1b4, .int .i64 x1i5] 30) := ⟨_, rfl⟩
  have bx1 : Blk w6 u1.heap.size 30 #[.string x1s0, .slice x1a1 x1n1 x1c1, .slice x1a2 x1n2 x1c2, .string x1s3, .bool x1b4, .int .i64 x1i5] := by rw [hw6]; exact Blk.new _ _ _
  replace bx0 := bx0.alloc (.cells #[.string x1s0, .slice x1a1 x1n1 x1c1, .slice x1a2 x1n2 x1c2, .string x1s3, .bool x1b4, .int .i64 x1i5] 30)
  replace bp0 := bp0.alloc (.cells #[.string x1s0, .slice x1a1 x1n1 x1c1, .slice x1a2 x1n2 x1c2, .string x1s3, .bool x1b4, .int .i64 x1i5] 30)
  replace bp1 := bp1.alloc (.cells #[.string x1s0, .slice x1a1 x1n1 x1c1, .slice x1a2 x1n2 x1c2, .string x1s3, .bool x1b4, .int .i64 x1i5] 30)
  replace bp2 := bp2.alloc (.cells #[.string x1s0, .slice x1a1 x1n1 x1c1, .slice x1a2 x1n2 x1c2, .string x1s3, .bool x1b4, .int .i64 x1i5] 30)
  replace hx0 := hx0.below tableE_good ((Below.refl _ _).alloc (Nat.le_refl _) (.cells #[.string x1s0, .slice x1a1 x1n1 x1c1, .slice x1a2 x1n2 x1c2, .string x1s3, .bool x1b4, .int .i64 x1i5] 30))
  replace hx1 := hx1.below ((Below.refl _ _).alloc (Nat.le_refl _) (.cells #[.string x1s0, .slice x1a1 x1n1 x1c1, .slice x1a2 x1n2 x1c2, .string x1s3, .bool x1b4, .int .i64 x1i5] 30))
  have hb6 := hbu1.alloc hbu1.size (.cells #[.string x1s0, .slice x1a1 x1n1 x1c1, .slice x1a2 x1n2 x1c2, .string x1s3, .bool x1b4, .int .i64 x1i5] 30)
  have z6 : w.heap.size + 3 ≤ w6.heap.size := by rw [hw6]; simp; omega
  rw [← hw6] at bx0 bp0 bp1 bp2 hx0 hx1 hb6
  rw [← hw6]
  clear hw6 hbu1 y0_0 y0_1 y0_2 y0_3
  have HX0 := Lib.hid (fun W (hb : Below w6.heap.size w6 W) => hx0.below tableE_good hb)
  have HX1 := Lib.hid (fun W (hb : Below w6.heap.size w6 W) => hx1.below hb)
  have yx0_0 : w6.cell? ⟨u0.heap.size, 0, none⟩ = some (.string x0s0) := bx0.cell 0
  have yx0_1 : w6.cell? ⟨u0.heap.size, 1, none⟩ = some (.string x0s1) := bx0.cell 1
  have yx0_2 : w6.cell? ⟨u0.heap.size, 2, none⟩ = some (.slice x0a2 x0n2 x0c2) := bx0.cell 2
  have yx0_3 : w6.cell? ⟨u0.heap.size, 3, none⟩ = some (.slice x0a3 x0n3 x0c3) := bx0.cell 3
  have yx1_0 : w6.cell? ⟨u1.heap.size, 0, none⟩ = some (.string x1s0) := bx1.cell 0
  have yx1_1 : w6.cell? ⟨u1.heap.size, 1, none⟩ = some (.slice x1a1 x1n1 x1c1) := bx1.cell 1
  have yx1_2 : w6.cell? ⟨u1.heap.size, 2, none⟩ = some (.slice x1a2 x1n2 x1c2) := bx1.cell 2
  have yx1_3 : w6.cell? ⟨u1.heap.size, 3, none⟩ = some (.string x1s3) := bx1.cell 3
  have yx1_4 : w6.cell? ⟨u1.heap.size, 4, none⟩ = some (.bool x1b4) := bx1.cell 4
  have yx1_5 : w6.cell? ⟨u1.heap.size, 5, none⟩ = some (.int .i64 x1i5) := bx1.cell 5
  have yp2_0 : w6.cell? ⟨w.heap.size + 1 + 1, 0, none⟩ = some (.int .i64 p2i0) := bp2.cell 0
  have yp2_1 : w6.cell? ⟨w.heap.size + 1 + 1, 1, none⟩ = some (.string p2s1) := bp2.cell 1
  have yp2_2 : w6.cell? ⟨w.heap.size + 1 + 1, 2, none⟩ = some (.string p2s2) := bp2.cell 2
  have lx0 := bx0.lt
  have lx1 := bx1.lt
  have hb66 : Below w6.heap.size w6 w6 := Below.refl _ _
  have zz66 : w6.heap.size ≤ w6.heap.size := Nat.le_refl _
  go_region_held3 (fun w' => w'.cell? ⟨u0.heap.size, 0, none⟩ = some (.string x0s0) ∧ w'.cell? ⟨u0.heap.size, 1, none⟩ = some (.string x0s1) ∧ w'.cell? ⟨u0.heap.size, 2, none⟩ = some (.slice x0a2 x0n2 x0c2) ∧ w'.cell? ⟨u0.heap.size, 3, none⟩ = some (.slice x0a3 x0n3 x0c3) ∧ w'.cell? ⟨u1.heap.size, 0, none⟩ = some (.string x1s0) ∧ w'.cell? ⟨u1.heap.size, 1, none⟩ = some (.slice x1a1 x1n1 x1c1) ∧ w'.cell? ⟨u1.heap.size, 2, none⟩ = some (.slice x1a2 x1n2 x1c2) ∧ w'.cell? ⟨u1.heap.size, 3, none⟩ = some (.string x1s3) ∧ w'.cell? ⟨u1.heap.size, 4, none⟩ = some (.bool x1b4) ∧ w'.cell? ⟨u1.heap.size, 5, none⟩ = some (.int .i64 x1i5) ∧ w'.cell? ⟨w.heap.size + 1 + 1, 0, none⟩ = some (.int .i64 p2i0) ∧ w'.cell? ⟨w.heap.size + 1 + 1, 1, none⟩ = some (.string p2s1) ∧ w'.cell? ⟨w.heap.size + 1 + 1, 2, none⟩ = some (.string p2s2) ∧ Blk w' (w.heap.size) 35 #[.string p0s0, .string p0s1, .slice p0a2 p0n2 p0c2, .slice p0a3 p0n3 p0c3] ∧ Blk w' (w.heap.size + 1) 25 #[.string p1s0, .slice p1a1 p1n1 p1c1, .slice p1a2 p1n2 p1c2, .string p1s3, .bool p1b4, .int .i64 p1i5] ∧ Blk w' u0.heap.size 38 #[.string x0s0, .string x0s1, .slice x0a2 x0n2 x0c2, .slice x0a3 x0n3 x0c3] ∧ Blk w' u1.heap.size 30 #[.string x1s0, .slice x1a1 x1n1 x1c1, .slice x1a2 x1n2 x1c2, .string x1s3, .bool x1b4, .int .i64 x1i5] ∧ Below w.heap.size w w' ∧ Below w6.heap.size w6 w' ∧ w6.heap.size ≤ w'.heap.size)
    (first | (go_split_ands; refine ⟨?_, ?_, ?_, ?_, ?_, ?_, ?_, ?_, ?_, ?_, ?_, ?_, ?_, ?_, ?_, ?_, ?_, ?_, ?_, ?_⟩ <;> first | (rw [hbc.cell (by first | omega | (simp; omega))]; assumption) | (refine Blk.below (by assumption) hbc ?_; first | omega | (simp; omega)) | (refine Below.trans ?_ (hbc.mono ?_) <;> first | assumption | exact Below.drew (by assumption) | omega | (simp; omega)) | (have := hbc.size; first | omega | (simp at this ⊢; omega))) | (refine ⟨?_, ?_, ?_, ?_, ?_, ?_, ?_, ?_, ?_, ?_, ?_, ?_, ?_, ?_, ?_, ?_, ?_, ?_, ?_, ?_⟩ <;> first | exact Below.drew (by assumption) | exact Blk.drew (by assumption) | go_keep))
    (first | (go_at_call_of 22 (Value.agg #[.int .i64 p2i0, .string p2s1, .string p2s2]); refine (toPlan_q x2 _ _ N2.out ?_).mono ?_; (exact A2.out _ (by go_split_ands; assumption)); rintro e w' ⟨va2, rfl, hva2, hbc⟩) | (go_at_call 23; refine (planFits_impl x0 x1 x2 r HR.out _ _ va2 _ hw0 hw1 N0.out N1.out (HX0.out _ (by go_split_ands; assumption)) (HX1.out _ (by go_split_ands; assumption)) hva2).mono ?_; rintro e w' ⟨rfl, hbc⟩))
  obtain ⟨w7, rfl⟩ : ∃ W : World, W = w' := ⟨_, rfl⟩
  clear hb66 zz66 hb6 z6 hbc hva2 bp0 bp1 bp2 bx0 bx1 hx0 hx1 lx0 lx1 yx0_0 yx0_1 yx0_2 yx0_3 yx1_0 yx1_1 yx1_2 yx1_3 yx1_4 yx1_5 yp2_0 yp2_1 yp2_2
  have bp0 : Blk w7 (w.heap.size) 35 #[.string p0s0, .string p0s1, .slice p0a2 p0n2 p0c2, .slice p0a3 p0n3 p0c3] := by go_split_ands; assumption
  have bx0 : Blk w7 u0.heap.size 38 #[.string x0s0, .string x0s1, .slice x0a2 x0n2 x0c2, .slice x0a3 x0n3 x0c3] := by go_split_ands; assumption
  have bp1 : Blk w7 (w.heap.size + 1) 25 #[.string p1s0, .slice p1a1 p1n1 p1c1, .slice p1a2 p1n2 p1c2, .string p1s3, .bool p1b4, .int .i64 p1i5] := by go_split_ands; assumption
  have bx1 : Blk w7 u1.heap.size 30 #[.string x1s0, .slice x1a1 x1n1 x1c1, .slice x1a2 x1n2 x1c2, .string x1s3, .bool x1b4, .int .i64 x1i5] := by go_split_ands; assumption
  have hb7 : Below w.heap.size w w7 := by go_split_ands; assumption
  have hb67 : Below w6.heap.size w6 w7 := by go_split_ands; assumption
  have X0 := Lib.hid (fun W (hb : Below w7.heap.size w7 W) => (HX0.out _ hb67).below tableE_good hb)
  have X1 := Lib.hid (fun W (hb : Below w7.heap.size w7 W) => (HX1.out _ hb67).below hb)
  have lx0 := bx0.lt
  have lx1 := bx1.lt
  have z7 : w.heap.size + 2 ≤ w7.heap.size := by have := hb67.size; have := bp0.lt; omega
  clear hb67
  have hrr : (r != r) = false := by cases r <;> rfl
  have hb77 : Below w7.heap.size w7 w7 := Below.refl _ _
  have zz77 : w7.heap.size ≤ w7.heap.size := Nat.le_refl _
  have yp0_0 : w7.cell? ⟨w.heap.size, 0, none⟩ = some (.string p0s0) := bp0.cell 0
  have yp0_1 : w7.cell? ⟨w.heap.size, 1, none⟩ = some (.string p0s1) := bp0.cell 1
  have yp0_2 : w7.cell? ⟨w.heap.size, 2, none⟩ = some (.slice p0a2 p0n2 p0c2) := bp0.cell 2
  have yp0_3 : w7.cell? ⟨w.heap.size, 3, none⟩ = some (.slice p0a3 p0n3 p0c3) := bp0.cell 3
  have yx0_0 : w7.cell? ⟨u0.heap.size, 0, none⟩ = some (.string x0s0) := bx0.cell 0
  have yx0_1 : w7.cell? ⟨u0.heap.size, 1, none⟩ = some (.string x0s1) := bx0.cell 1
  have yx0_2 : w7.cell? ⟨u0.heap.size, 2, none⟩ = some (.slice x0a2 x0n2 x0c2) := bx0.cell 2
  have yx0_3 : w7.cell? ⟨u0.heap.size, 3, none⟩ = some (.slice x0a3 x0n3 x0c3) := bx0.cell 3
  go_wp2_with fail
  go_region_held3 (fun w' => w'.cell? ⟨w.heap.size, 0, none⟩ = some (.string p0s0) ∧ w'.cell? ⟨w.heap.size, 1, none⟩ = some (.string p0s1) ∧ w'.cell? ⟨w.heap.size, 2, none⟩ = some (.slice p0a2 p0n2 p0c2) ∧ w'.cell? ⟨w.heap.size, 3, none⟩ = some (.slice p0a3 p0n3 p0c3) ∧ w'.cell? ⟨u0.heap.size, 0, none⟩ = some (.string x0s0) ∧ w'.cell? ⟨u0.heap.size, 1, none⟩ = some (.string x0s1) ∧ w'.cell? ⟨u0.heap.size, 2, none⟩ = some (.slice x0a2 x0n2 x0c2) ∧ w'.cell? ⟨u0.heap.size, 3, none⟩ = some (.slice x0a3 x0n3 x0c3) ∧ Blk w' (w.heap.size + 1) 25 #[.string p1s0, .slice p1a1 p1n1 p1c1, .slice p1a2 p1n2 p1c2, .string p1s3, .bool p1b4, .int .i64 p1i5] ∧ Blk w' u1.heap.size 30 #[.string x1s0, .slice x1a1 x1n1 x1c1, .slice x1a2 x1n2 x1c2, .string x1s3, .bool x1b4, .int .i64 x1i5] ∧ Below w.heap.size w w' ∧ Below w7.heap.size w7 w' ∧ w7.heap.size ≤ w'.heap.size)
    (first | (go_split_ands; refine ⟨?_, ?_, ?_, ?_, ?_, ?_, ?_, ?_, ?_, ?_, ?_, ?_, ?_⟩ <;> first | (rw [hbc.cell (by first | omega | (simp; omega))]; assumption) | (refine Blk.below (by assumption) hbc ?_; first | omega | (simp; omega)) | (refine Below.trans ?_ (hbc.mono ?_) <;> first | assumption | exact Below.drew (by assumption) | omega | (simp; omega)) | (have := hbc.size; first | omega | (simp at this ⊢; omega))) | (refine ⟨?_, ?_, ?_, ?_, ?_, ?_, ?_, ?_, ?_, ?_, ?_, ?_, ?_⟩ <;> first | exact Below.drew (by assumption) | exact Blk.drew (by assumption) | go_keep))
    (first | (go_at_call 14; refine (toTable_q x0 _ _ N0.out ?_).mono ?_; (exact A0.out _ (by go_split_ands; assumption)); rintro e w' ⟨va, rfl, hva, hbc⟩) | (go_at_call 16; refine (eqTable_q x0 _ va _ N0.out ?_ hva).mono ?_; (exact X0.out _ (by go_split_ands; assumption)); rintro e w' ⟨rfl, hbc⟩))
  obtain ⟨w8, rfl⟩ : ∃ W : World, W = w' := ⟨_, rfl⟩
  clear hb77 zz77 hb7 hva hbc yp0_0 yx0_0 yp0_1 yx0_1 yp0_2 yx0_2 yp0_3 yx0_3 bp0 bx0 bp1 bx1
  have bp1 : Blk w8 (w.heap.size + 1) 25 #[.string p1s0, .slice p1a1 p1n1 p1c1, .slice p1a2 p1n2 p1c2, .string p1s3, .bool p1b4, .int .i64 p1i5] := by go_split_ands; assumption
  have bx1 : Blk w8 u1.heap.size 30 #[.string x1s0, .slice x1a1 x1n1 x1c1, .slice x1a2 x1n2 x1c2, .string x1s3, .bool x1b4, .int .i64 x1i5] := by go_split_ands; assumption
  have hb7 : Below w.heap.size w w8 := by go_split_ands; assumption
  have hb77 : Below w7.heap.size w7 w8 := by go_split_ands; assumption
  have zz77 : w7.heap.size ≤ w8.heap.size := by go_split_ands; assumption
  have yp1_0 : w8.cell? ⟨w.heap.size + 1, 0, none⟩ = some (.string p1s0) := bp1.cell 0
  have yp1_1 : w8.cell? ⟨w.heap.size + 1, 1, none⟩ = some (.slice p1a1 p1n1 p1c1) := bp1.cell 1
  have yp1_2 : w8.cell? ⟨w.heap.size + 1, 2, none⟩ = some (.slice p1a2 p1n2 p1c2) := bp1.cell 2
  have yp1_3 : w8.cell? ⟨w.heap.size + 1, 3, none⟩ = some (.string p1s3) := bp1.cell 3
  have yp1_4 : w8.cell? ⟨w.heap.size + 1, 4, none⟩ = some (.bool p1b4) := bp1.cell 4
  have yp1_5 : w8.cell? ⟨w.heap.size + 1, 5, none⟩ = some (.int .i64 p1i5) := bp1.cell 5
  have yx1_0 : w8.cell? ⟨u1.heap.size, 0, none⟩ = some (.string x1s0) := bx1.cell 0
  have yx1_1 : w8.cell? ⟨u1.heap.size, 1, none⟩ = some (.slice x1a1 x1n1 x1c1) := bx1.cell 1
  have yx1_2 : w8.cell? ⟨u1.heap.size, 2, none⟩ = some (.slice x1a2 x1n2 x1c2) := bx1.cell 2
  have yx1_3 : w8.cell? ⟨u1.heap.size, 3, none⟩ = some (.string x1s3) := bx1.cell 3
  have yx1_4 : w8.cell? ⟨u1.heap.size, 4, none⟩ = some (.bool x1b4) := bx1.cell 4
  have yx1_5 : w8.cell? ⟨u1.heap.size, 5, none⟩ = some (.int .i64 x1i5) := bx1.cell 5
  go_wp2_with fail
  go_region_held3 (fun w' => w'.cell? ⟨w.heap.size + 1, 0, none⟩ = some (.string p1s0) ∧ w'.cell? ⟨w.heap.size + 1, 1, none⟩ = some (.slice p1a1 p1n1 p1c1) ∧ w'.cell? ⟨w.heap.size + 1, 2, none⟩ = some (.slice p1a2 p1n2 p1c2) ∧ w'.cell? ⟨w.heap.size + 1, 3, none⟩ = some (.string p1s3) ∧ w'.cell? ⟨w.heap.size + 1, 4, none⟩ = some (.bool p1b4) ∧ w'.cell? ⟨w.heap.size + 1, 5, none⟩ = some (.int .i64 p1i5) ∧ w'.cell? ⟨u1.heap.size, 0, none⟩ = some (.string x1s0) ∧ w'.cell? ⟨u1.heap.size, 1, none⟩ = some (.slice x1a1 x1n1 x1c1) ∧ w'.cell? ⟨u1.heap.size, 2, none⟩ = some (.slice x1a2 x1n2 x1c2) ∧ w'.cell? ⟨u1.heap.size, 3, none⟩ = some (.string x1s3) ∧ w'.cell? ⟨u1.heap.size, 4, none⟩ = some (.bool x1b4) ∧ w'.cell? ⟨u1.heap.size, 5, none⟩ = some (.int .i64 x1i5) ∧ Below w.heap.size w w' ∧ Below w7.heap.size w7 w' ∧ w7.heap.size ≤ w'.heap.size)
    (first | (go_split_ands; refine ⟨?_, ?_, ?_, ?_, ?_, ?_, ?_, ?_, ?_, ?_, ?_, ?_, ?_, ?_, ?_⟩ <;> first | (rw [hbc.cell (by first | omega | (simp; omega))]; assumption) | (refine Blk.below (by assumption) hbc ?_; first | omega | (simp; omega)) | (refine Below.trans ?_ (hbc.mono ?_) <;> first | assumption | exact Below.drew (by assumption) | omega | (simp; omega)) | (have := hbc.size; first | omega | (simp at this ⊢; omega))) | (refine ⟨?_, ?_, ?_, ?_, ?_, ?_, ?_, ?_, ?_, ?_, ?_, ?_, ?_, ?_, ?_⟩ <;> first | exact Below.drew (by assumption) | exact Blk.drew (by assumption) | go_keep))
    (first | (go_at_call 9; refine (toQuery_q x1 _ _ N1.out ?_).mono ?_; (exact A1.out _ (by go_split_ands; assumption)); rintro e w' ⟨va, rfl, hva, hbc⟩) | (go_at_call 11; refine (eqQuery_q x1 _ va _ N1.out ?_ hva).mono ?_; (exact X1.out _ (by go_split_ands; assumption)); rintro e w' ⟨rfl, hbc⟩))
  have hb9 : Below w.heap.size w w' := by go_split_ands; assumption
  go_wp2_with fail
  go_ret
  exact ⟨rfl, hb9⟩
end Go.Proofs.Ytfaphgpelkkccaa
