/- The walk of the law FnExactPlanOf. -/
import Derived.Test.YtfaphgpelkkccaaPlanOfS
import Derived.Deep.DeepCutAuto
namespace Go.Proofs.Ytfaphgpelkkccaa
open Go.RowKit
set_option linter.unusedVariables false

theorem newBlk {Y W : World} {cs : Array Value} {t : TypeId} (h : Below (Y.alloc (.cells cs t)).heap.size (Y.alloc (.cells cs t)) W) : Blk W Y.heap.size t cs := (Blk.new Y t cs).below h (Blk.new Y t cs).lt
theorem newBlkD {Y W : World} {cs : Array Value} {t : TypeId} (h : Below (Y.alloc (.cells cs t)).drew.heap.size (Y.alloc (.cells cs t)).drew W) : Blk W Y.heap.size t cs := (Blk.new Y t cs).drew.below h (Blk.new Y t cs).drew.lt
theorem bl_drew {A W : World} (h : Below A.heap.size A W) : Below A.heap.size A W.drew := h.drew
theorem bl_alloc {A W : World} (h : Below A.heap.size A W) (o : Obj) : Below A.heap.size A (W.alloc o) := h.alloc h.size o
theorem bl_set {A W : World} {p : Addr} (h : Below A.heap.size A W) (hp : A.heap.size ≤ p.block) (u : Value) : Below A.heap.size A (W.setCell p u) := h.setCell hp u
structure Link (X W : World) : Prop where
  b : Below X.heap.size X W
theorem bl_chain {A X W : World} (h : Below A.heap.size A X) (h2 : Link X W) : Below A.heap.size A W := h.trans (h2.b.mono h.size)
theorem eqPlan_q2 (x : PlanV) (v u : Value) (w : World) (h : PlanAt w v x) (h2 : PlanAt w u x) :
    Calls Try.prog 19 #[v, u] w (ValPost (.bool true) w) := by
  obtain ⟨cs, rfl, rfl⟩ := h
  obtain ⟨cs, rfl, rfl⟩ := h2
  obtain ⟨d0, d1, d2⟩ := x
  go_enter Try.func19, Try.ntmps19
  go_wp2_with fail
  go_ret
  exact ⟨rfl, (((Below.refl w.heap.size w).alloc (Nat.le_refl _) (.cells #[.int .i64 d0, .string d1, .string d2] 43)).alloc (by simp) (.cells #[.int .i64 d0, .string d1, .string d2] 43))⟩
theorem planRes_ex (b : TableV) (q : QueryV) : ∃ p c, planRes b q = .tuple #[planAgg p, .int .i64 c] := by
  unfold planRes
  split
  · exact ⟨_, _, rfl⟩
  · exact ⟨_, _, rfl⟩
theorem planOf_spec' (b : TableV) (q : QueryV) (p : PlanV) (c : Int) (hp : planRes b q = .tuple #[.agg #[.int .i64 p.kind, .string p.column, .string p.value], .int .i64 c]) (vb vq : Value) (w : World) (hwb : TableWf b) (hwq : QueryWf q) (hnb : tableNeed b ≤ 1048576) (hnq : queryNeed q ≤ 1048576) (atb : TableAt w vb b) (atq : QAt w vq q) :
    Calls Try.prog 17 #[vb, vq] w (ValPost (.tuple #[.agg #[.int .i64 p.kind, .string p.column, .string p.value], .int .i64 c]) w) := hp ▸ planOf_spec b q vb vq w hwb hwq hnb hnq atb atq
theorem planOf_impl' (b : TableV) (q : QueryV) (p : PlanV) (c : Int) (hp : planRes b q = .tuple #[.agg #[.int .i64 p.kind, .string p.column, .string p.value], .int .i64 c]) (vb vq : Value) (w : World) (hwb : TableWf b) (hwq : QueryWf q) (hnb : tableNeed b ≤ 1048576) (hnq : queryNeed q ≤ 1048576) (atb : TableAt w vb b) (atq : QAt w vq q) :
    Calls Try.prog 18 #[vb, vq] w (ValPost (.tuple #[.agg #[.int .i64 p.kind, .string p.column, .string p.value], .int .i64 c]) w) := hp ▸ planOf_impl b q vb vq w hwb hwq hnb hnq atb atq

set_option maxRecDepth 100000 in
set_option maxHeartbeats 8000000 in
theorem FnExactPlanOf_walk (x0 : TableV) (v0 : Value) (x1 : QueryV) (v1 : Value) (w : World) (hw0 : TableWf x0) (hw1 : QueryWf x1) (at0 : TableAt w v0 x0) (at1 : QAt w v1 x1) :
    Calls Try.prog 5 #[v0, v1] w fun e w' => e = .returned (.bool true) ∧ Below w.heap.size w w' := by
  obtain ⟨p0s0, p0s1, p0a2, p0n2, p0c2, p0a3, p0n3, p0c3, rfl⟩ := TableAt_agg at0
  have A0 := Lib.hid (fun W (hb : Below w.heap.size w W) => at0.below tableE_good hb)
  clear at0
  obtain ⟨p1s0, p1a1, p1n1, p1c1, p1a2, p1n2, p1c2, p1s3, p1b4, p1i5, rfl⟩ := at1.agg
  have A1 := Lib.hid (fun W (hb : Below w.heap.size w W) => at1.below hb)
  clear at1
  go_enter Try.func5, Try.ntmps5
  go_wp2_with fail
  obtain ⟨W0, hW0⟩ : ∃ W0, W0 = ((w.alloc (.cells #[.string p0s0, .string p0s1, .slice p0a2 p0n2 p0c2, .slice p0a3 p0n3 p0c3] 35)).alloc (.cells #[.string p1s0, .slice p1a1 p1n1 p1c1, .slice p1a2 p1n2 p1c2, .string p1s3, .bool p1b4, .int .i64 p1i5] 25)) := ⟨_, rfl⟩
  have bp0 : Blk W0 (w.heap.size) 35 #[.string p0s0, .string p0s1, .slice p0a2 p0n2 p0c2, .slice p0a3 p0n3 p0c3] := by rw [hW0]; exact (Blk.new w 35 #[.string p0s0, .string p0s1, .slice p0a2 p0n2 p0c2, .slice p0a3 p0n3 p0c3]).alloc _
  have bp1 : Blk W0 (w.heap.size + 1) 25 #[.string p1s0, .slice p1a1 p1n1 p1c1, .slice p1a2 p1n2 p1c2, .string p1s3, .bool p1b4, .int .i64 p1i5] := by rw [hW0]; exact (by simpa using Blk.new (w.alloc (.cells #[.string p0s0, .string p0s1, .slice p0a2 p0n2 p0c2, .slice p0a3 p0n3 p0c3] 35)) 25 #[.string p1s0, .slice p1a1 p1n1 p1c1, .slice p1a2 p1n2 p1c2, .string p1s3, .bool p1b4, .int .i64 p1i5] : Blk _ (w.heap.size + 1) _ _)
  have hb0 : Below w.heap.size w W0 := by rw [hW0]; exact (((Below.refl w.heap.size w).alloc (Nat.le_refl _) _).alloc (by simp) _)
  have z0 : w.heap.size + 2 ≤ W0.heap.size := by rw [hW0]; simp
  rw [← hW0]
  clear hW0
  refine (szTable_q x0 _ 1048576 W0 (by omega) (by omega) hw0 (A0.out _ hb0)).mono ?_
  rintro e w1 ⟨r1, hr1, rfl, hc1⟩
  have hb1 := hb0.trans (hc1.mono hb0.size)
  replace bp0 := bp0.below hc1 (by omega)
  replace bp1 := bp1.below hc1 (by omega)
  have z1 : w.heap.size + 2 ≤ w1.heap.size := Nat.le_trans z0 hc1.size
  clear hc1
  by_cases k1 : r1 < 0
  · clear hr1
    go_wp2_with fail
    go_ret
    exact ⟨rfl, hb1⟩
  have N0 := Lib.hid (show tableNeed x0 ≤ 1048576 from by omega)
  have l1 : r1 ≤ 1048576 := by omega
  clear hr1
  obtain ⟨y0, y1, y2, y3, y4, y5⟩ := bp1.c6
  go_wp2_with fail
  refine (szQuery_q x1 _ r1 w1 (by omega) (by omega) hw1 (A1.out _ hb1)).mono ?_
  rintro e w2 ⟨r2, hr2, rfl, hc2⟩
  have hb2 := hb1.trans (hc2.mono hb1.size)
  replace bp0 := bp0.below hc2 (by omega)
  replace bp1 := bp1.below hc2 (by omega)
  have z2 : w.heap.size + 2 ≤ w2.heap.size := Nat.le_trans z1 hc2.size
  clear hc2 y0 y1 y2 y3 y4 y5
  by_cases k2 : r2 < 0
  · clear hr2
    go_wp2_with fail
    go_ret
    exact ⟨rfl, hb2⟩
  have N1 := Lib.hid (show queryNeed x1 ≤ 1048576 from by omega)
  have l2 : r2 ≤ 1048576 := by omega
  clear hr2
  obtain ⟨⟨pk, pc, pv⟩, pe, hr⟩ := planRes_ex x0 x1
  unfold planAgg at hr
  have HR := Lib.hid hr
  clear hr
  obtain ⟨y0_0, y0_1, y0_2, y0_3⟩ := bp0.c4
  obtain ⟨y1_0, y1_1, y1_2, y1_3, y1_4, y1_5⟩ := bp1.c6
  have HS := Lib.hid (fun (w' : World) (hB : Below w2.heap.size w2 w') => (⟨(hB.cell (p := ⟨w.heap.size, 0, none⟩) (by dsimp only; omega)).trans y0_0, (hB.cell (p := ⟨w.heap.size, 1, none⟩) (by dsimp only; omega)).trans y0_1, (hB.cell (p := ⟨w.heap.size, 2, none⟩) (by dsimp only; omega)).trans y0_2, (hB.cell (p := ⟨w.heap.size, 3, none⟩) (by dsimp only; omega)).trans y0_3, (hB.cell (p := ⟨w.heap.size + 1, 0, none⟩) (by dsimp only; omega)).trans y1_0, (hB.cell (p := ⟨w.heap.size + 1, 1, none⟩) (by dsimp only; omega)).trans y1_1, (hB.cell (p := ⟨w.heap.size + 1, 2, none⟩) (by dsimp only; omega)).trans y1_2, (hB.cell (p := ⟨w.heap.size + 1, 3, none⟩) (by dsimp only; omega)).trans y1_3, (hB.cell (p := ⟨w.heap.size + 1, 4, none⟩) (by dsimp only; omega)).trans y1_4, (hB.cell (p := ⟨w.heap.size + 1, 5, none⟩) (by dsimp only; omega)).trans y1_5, hB⟩ : w'.cell? ⟨w.heap.size, 0, none⟩ = some (.string p0s0) ∧ w'.cell? ⟨w.heap.size, 1, none⟩ = some (.string p0s1) ∧ w'.cell? ⟨w.heap.size, 2, none⟩ = some (.slice p0a2 p0n2 p0c2) ∧ w'.cell? ⟨w.heap.size, 3, none⟩ = some (.slice p0a3 p0n3 p0c3) ∧ w'.cell? ⟨w.heap.size + 1, 0, none⟩ = some (.string p1s0) ∧ w'.cell? ⟨w.heap.size + 1, 1, none⟩ = some (.slice p1a1 p1n1 p1c1) ∧ w'.cell? ⟨w.heap.size + 1, 2, none⟩ = some (.slice p1a2 p1n2 p1c2) ∧ w'.cell? ⟨w.heap.size + 1, 3, none⟩ = some (.string p1s3) ∧ w'.cell? ⟨w.heap.size + 1, 4, none⟩ = some (.bool p1b4) ∧ w'.cell? ⟨w.heap.size + 1, 5, none⟩ = some (.int .i64 p1i5) ∧ Below w2.heap.size w2 w'))
  go_upto_region 8 with fail
  go_cut [6, 7] (fun s6 s7 wx => ∃ g : Nat, s6 = .pointer (some ⟨g, 0, none⟩) ∧ s7 = .int .i64 pe ∧ w2.heap.size ≤ g ∧ Blk wx g 43 #[.int .i64 pk, .string pc, .string pv] ∧ Below w2.heap.size w2 wx)
  case first =>
    go_region_held3 (fun w' => w'.cell? ⟨w.heap.size, 0, none⟩ = some (.string p0s0) ∧ w'.cell? ⟨w.heap.size, 1, none⟩ = some (.string p0s1) ∧ w'.cell? ⟨w.heap.size, 2, none⟩ = some (.slice p0a2 p0n2 p0c2) ∧ w'.cell? ⟨w.heap.size, 3, none⟩ = some (.slice p0a3 p0n3 p0c3) ∧ w'.cell? ⟨w.heap.size + 1, 0, none⟩ = some (.string p1s0) ∧ w'.cell? ⟨w.heap.size + 1, 1, none⟩ = some (.slice p1a1 p1n1 p1c1) ∧ w'.cell? ⟨w.heap.size + 1, 2, none⟩ = some (.slice p1a2 p1n2 p1c2) ∧ w'.cell? ⟨w.heap.size + 1, 3, none⟩ = some (.string p1s3) ∧ w'.cell? ⟨w.heap.size + 1, 4, none⟩ = some (.bool p1b4) ∧ w'.cell? ⟨w.heap.size + 1, 5, none⟩ = some (.int .i64 p1i5) ∧ Below w2.heap.size w2 w')
      (first | (refine HS.out _ ?_; (go_split_ands; (focus (repeat (first | assumption | exact Below.refl _ _ | refine bl_drew ?_ | refine bl_alloc ?_ _ | refine bl_set ?_ (by first | omega | (dsimp only; omega) | (simp; omega)) _ | refine bl_chain ?_ (by assumption)))))) | (trace_state; fail))
      (first | (go_at_call_of 14 (Value.agg #[.string p0s0, .string p0s1, .slice p0a2 p0n2 p0c2, .slice p0a3 p0n3 p0c3]); refine (toTable_q x0 _ _ N0.out ?_).mono ?_; (refine A0.out _ (Below.trans hb2 (Below.mono (by go_split_ands; assumption) hb2.size))); rintro e w' ⟨va0, rfl, hva0, hbc⟩; (have hk := Link.mk hbc); (have hq0 : Below w2.heap.size w2 w' := by (go_split_ands; (focus (repeat (first | assumption | exact Below.refl _ _ | refine bl_drew ?_ | refine bl_alloc ?_ _ | refine bl_set ?_ (by first | omega | (dsimp only; omega) | (simp; omega)) _ | refine bl_chain ?_ (by assumption)))))); (have hq1 := hq0.size); (first | (have hN := newBlkD hbc) | (have hN := newBlk hbc) | (have hN := Blk.below hN hbc (Blk.lt hN)) | skip)) | (go_at_call_of 9 (Value.agg #[.string p1s0, .slice p1a1 p1n1 p1c1, .slice p1a2 p1n2 p1c2, .string p1s3, .bool p1b4, .int .i64 p1i5]); refine (toQuery_q x1 _ _ N1.out ?_).mono ?_; (refine A1.out _ (Below.trans hb2 (Below.mono (by go_split_ands; assumption) hb2.size))); rintro e w' ⟨va1, rfl, hva1, hbc⟩; (have hk := Link.mk hbc); (have hq0 : Below w2.heap.size w2 w' := by (go_split_ands; (focus (repeat (first | assumption | exact Below.refl _ _ | refine bl_drew ?_ | refine bl_alloc ?_ _ | refine bl_set ?_ (by first | omega | (dsimp only; omega) | (simp; omega)) _ | refine bl_chain ?_ (by assumption)))))); (have hq1 := hq0.size); (first | (have hN := newBlkD hbc) | (have hN := newBlk hbc) | (have hN := Blk.below hN hbc (Blk.lt hN)) | skip)) | (go_at_call 17; refine (planOf_spec' x0 x1 ⟨pk, pc, pv⟩ pe HR.out va0 va1 _ hw0 hw1 N0.out N1.out (hva0.below tableE_good ?_) (hva1.below ?_)).mono ?_; (focus (repeat (first | assumption | exact Below.refl _ _ | refine bl_drew ?_ | refine bl_alloc ?_ _ | refine bl_set ?_ (by first | omega | (dsimp only; omega) | (simp; omega)) _ | refine bl_chain ?_ (by assumption)))); (focus (repeat (first | assumption | exact Below.refl _ _ | refine bl_drew ?_ | refine bl_alloc ?_ _ | refine bl_set ?_ (by first | omega | (dsimp only; omega) | (simp; omega)) _ | refine bl_chain ?_ (by assumption)))); rintro e w' ⟨rfl, hbc⟩; (have hk := Link.mk hbc); (have hq0 : Below w2.heap.size w2 w' := by (go_split_ands; (focus (repeat (first | assumption | exact Below.refl _ _ | refine bl_drew ?_ | refine bl_alloc ?_ _ | refine bl_set ?_ (by first | omega | (dsimp only; omega) | (simp; omega)) _ | refine bl_chain ?_ (by assumption)))))); (have hq1 := hq0.size); (first | (have hN := newBlkD hbc) | (have hN := newBlk hbc) | (have hN := Blk.below hN hbc (Blk.lt hN)) | skip); (first | (have hNc := Blk.c3 hN; have hNf := Blk.f3 hN; obtain ⟨n0, n1, n2⟩ := hNc; obtain ⟨m0, m1, m2⟩ := hNf) | skip)))
    all_goals (go_wp2_with fail; go_meet; first | (refine ⟨_, rfl, rfl, ?_, Blk.new _ _ _, ?_⟩ <;> first | omega | (go_split_ands; (focus (repeat (first | assumption | exact Below.refl _ _ | refine bl_drew ?_ | refine bl_alloc ?_ _ | refine bl_set ?_ (by first | omega | (dsimp only; omega) | (simp; omega)) _ | refine bl_chain ?_ (by assumption)))))) | (refine ⟨_, rfl, rfl, ?_, Blk.drew (Blk.new _ _ _), ?_⟩ <;> first | omega | (go_split_ands; (focus (repeat (first | assumption | exact Below.refl _ _ | refine bl_drew ?_ | refine bl_alloc ?_ _ | refine bl_set ?_ (by first | omega | (dsimp only; omega) | (simp; omega)) _ | refine bl_chain ?_ (by assumption)))))) | (refine ⟨_, rfl, rfl, ?_, (Blk.set_ (Blk.set_ (Blk.set_ hN 0 _) 1 _) 2 _), ?_⟩ <;> first | omega | (go_split_ands; (focus (repeat (first | assumption | exact Below.refl _ _ | refine bl_drew ?_ | refine bl_alloc ?_ _ | refine bl_set ?_ (by first | omega | (dsimp only; omega) | (simp; omega)) _ | refine bl_chain ?_ (by assumption)))))))
  case rest =>
  obtain ⟨g, rfl, rfl, hg, bw, hB⟩ := hcut
  obtain ⟨wb, rfl⟩ : ∃ wb : World, wb = wc := ⟨_, rfl⟩
  have hbb := hb2.trans (hB.mono hb2.size)
  have zb : w.heap.size + 2 ≤ wb.heap.size := Nat.le_trans z2 hB.size
  replace bp0 := bp0.below hB (by omega)
  replace bp1 := bp1.below hB (by omega)
  clear HS hB y0_0 y0_1 y0_2 y0_3 y1_0 y1_1 y1_2 y1_3 y1_4 y1_5
  have y0 : wb.cell? ⟨w.heap.size, 0, none⟩ = some (.string p0s0) := bp0.cell 0
  have y1 : wb.cell? ⟨w.heap.size, 1, none⟩ = some (.string p0s1) := bp0.cell 1
  have y2 : wb.cell? ⟨w.heap.size, 2, none⟩ = some (.slice p0a2 p0n2 p0c2) := bp0.cell 2
  have y3 : wb.cell? ⟨w.heap.size, 3, none⟩ = some (.slice p0a3 p0n3 p0c3) := bp0.cell 3
  go_wp2_with fail
  refine (toTable_q x0 _ _ N0.out (A0.out _ hbb)).mono ?_
  rintro e u0 ⟨vx0, rfl, hx0, hc⟩
  have hbu0 := hbb.trans (hc.mono hbb.size)
  replace bp0 := bp0.below hc (by omega)
  replace bp1 := bp1.below hc (by omega)
  replace bw := bw.below hc bw.lt
  have zu0 : w.heap.size + 2 ≤ u0.heap.size := Nat.le_trans zb hc.size
  clear hc y0 y1 y2 y3
  obtain ⟨x0s0, x0s1, x0a2, x0n2, x0c2, x0a3, x0n3, x0c3, rfl⟩ := TableAt_agg hx0
  have y0 : ∀ o, (u0.alloc o).cell? ⟨w.heap.size + 1, 0, none⟩ = some (.string p1s0) := fun o => (bp1.alloc o).cell 0
  have y1 : ∀ o, (u0.alloc o).cell? ⟨w.heap.size + 1, 1, none⟩ = some (.slice p1a1 p1n1 p1c1) := fun o => (bp1.alloc o).cell 1
  have y2 : ∀ o, (u0.alloc o).cell? ⟨w.heap.size + 1, 2, none⟩ = some (.slice p1a2 p1n2 p1c2) := fun o => (bp1.alloc o).cell 2
  have y3 : ∀ o, (u0.alloc o).cell? ⟨w.heap.size + 1, 3, none⟩ = some (.string p1s3) := fun o => (bp1.alloc o).cell 3
  have y4 : ∀ o, (u0.alloc o).cell? ⟨w.heap.size + 1, 4, none⟩ = some (.bool p1b4) := fun o => (bp1.alloc o).cell 4
  have y5 : ∀ o, (u0.alloc o).cell? ⟨w.heap.size + 1, 5, none⟩ = some (.int .i64 p1i5) := fun o => (bp1.alloc o).cell 5
  go_wp2_with fail
  refine (toQuery_q x1 _ _ N1.out (A1.out _ (hbu0.alloc hbu0.size _))).mono ?_
  rintro e u1 ⟨vx1, rfl, hx1, hc⟩
  have bx0 := (Blk.new u0 38 #[.string x0s0, .string x0s1, .slice x0a2 x0n2 x0c2, .slice x0a3 x0n3 x0c3]).below hc (by simp)
  replace bp0 := (bp0.alloc (.cells #[.string x0s0, .string x0s1, .slice x0a2 x0n2 x0c2, .slice x0a3 x0n3 x0c3] 38)).below hc (by simp; omega)
  replace bp1 := (bp1.alloc (.cells #[.string x0s0, .string x0s1, .slice x0a2 x0n2 x0c2, .slice x0a3 x0n3 x0c3] 38)).below hc (by simp; omega)
  replace bw := (bw.alloc (.cells #[.string x0s0, .string x0s1, .slice x0a2 x0n2 x0c2, .slice x0a3 x0n3 x0c3] 38)).below hc (by have := bw.lt; simp; omega)
  replace hx0 := (hx0.below tableE_good ((Below.refl _ _).alloc (Nat.le_refl _) (.cells #[.string x0s0, .string x0s1, .slice x0a2 x0n2 x0c2, .slice x0a3 x0n3 x0c3] 38))).below tableE_good hc
  have hbu1 := (hbu0.alloc hbu0.size (.cells #[.string x0s0, .string x0s1, .slice x0a2 x0n2 x0c2, .slice x0a3 x0n3 x0c3] 38)).trans (hc.mono (by simp; omega))
  have zu1 : w.heap.size + 2 ≤ u1.heap.size := by have := hc.size; simp at this; omega
  clear hc y0 y1 y2 y3 y4 y5
  obtain ⟨x1s0, x1a1, x1n1, x1c1, x1a2, x1n2, x1c2, x1s3, x1b4, x1i5, rfl⟩ := hx1.agg
  have y0_0 : ∀ o, (u1.alloc o).cell? ⟨u0.heap.size, 0, none⟩ = some (.string x0s0) := fun o => (bx0.alloc o).cell 0
  have y0_1 : ∀ o, (u1.alloc o).cell? ⟨u0.heap.size, 1, none⟩ = some (.string x0s1) := fun o => (bx0.alloc o).cell 1
  have y0_2 : ∀ o, (u1.alloc o).cell? ⟨u0.heap.size, 2, none⟩ = some (.slice x0a2 x0n2 x0c2) := fun o => (bx0.alloc o).cell 2
  have y0_3 : ∀ o, (u1.alloc o).cell? ⟨u0.heap.size, 3, none⟩ = some (.slice x0a3 x0n3 x0c3) := fun o => (bx0.alloc o).cell 3
  go_wp2_with fail
  obtain ⟨w6, hw6⟩ : ∃ w6, w6 = u1.alloc (.cells #[.string x1s0, .slice x1a1 x1n1 x1c1, .slice x1a2 x1n2 x1c2, .string x1s3, .bool x1b4, .int .i64 x1i5] 30) := ⟨_, rfl⟩
  have bx1 : Blk w6 u1.heap.size 30 #[.string x1s0, .slice x1a1 x1n1 x1c1, .slice x1a2 x1n2 x1c2, .string x1s3, .bool x1b4, .int .i64 x1i5] := by rw [hw6]; exact Blk.new _ _ _
  replace bx0 := bx0.alloc (.cells #[.string x1s0, .slice x1a1 x1n1 x1c1, .slice x1a2 x1n2 x1c2, .string x1s3, .bool x1b4, .int .i64 x1i5] 30)
  replace bp0 := bp0.alloc (.cells #[.string x1s0, .slice x1a1 x1n1 x1c1, .slice x1a2 x1n2 x1c2, .string x1s3, .bool x1b4, .int .i64 x1i5] 30)
  replace bp1 := bp1.alloc (.cells #[.string x1s0, .slice x1a1 x1n1 x1c1, .slice x1a2 x1n2 x1c2, .string x1s3, .bool x1b4, .int .i64 x1i5] 30)
  replace bw := bw.alloc (.cells #[.string x1s0, .slice x1a1 x1n1 x1c1, .slice x1a2 x1n2 x1c2, .string x1s3, .bool x1b4, .int .i64 x1i5] 30)
  rw [← hw6] at bw
  replace hx0 := hx0.below tableE_good ((Below.refl _ _).alloc (Nat.le_refl _) (.cells #[.string x1s0, .slice x1a1 x1n1 x1c1, .slice x1a2 x1n2 x1c2, .string x1s3, .bool x1b4, .int .i64 x1i5] 30))
  replace hx1 := hx1.below ((Below.refl _ _).alloc (Nat.le_refl _) (.cells #[.string x1s0, .slice x1a1 x1n1 x1c1, .slice x1a2 x1n2 x1c2, .string x1s3, .bool x1b4, .int .i64 x1i5] 30))
  have hb6 := hbu1.alloc hbu1.size (.cells #[.string x1s0, .slice x1a1 x1n1 x1c1, .slice x1a2 x1n2 x1c2, .string x1s3, .bool x1b4, .int .i64 x1i5] 30)
  have z6 : w.heap.size + 2 ≤ w6.heap.size := by rw [hw6]; simp; omega
  rw [← hw6] at bx0 bp0 bp1 hx0 hx1 hb6
  rw [← hw6]
  clear hw6 hbu1 y0_0 y0_1 y0_2 y0_3
  refine (planOf_impl' x0 x1 ⟨pk, pc, pv⟩ pe HR.out _ _ w6 hw0 hw1 N0.out N1.out hx0 hx1).mono ?_
  rintro e wi ⟨rfl, hci⟩
  replace bw := bw.below hci bw.lt
  have yw0 : ∀ o, (wi.alloc o).cell? ⟨g, 0, none⟩ = some (.int .i64 pk) := fun o => (bw.alloc o).cell 0
  have yw1 : ∀ o, (wi.alloc o).cell? ⟨g, 1, none⟩ = some (.string pc) := fun o => (bw.alloc o).cell 1
  have yw2 : ∀ o, (wi.alloc o).cell? ⟨g, 2, none⟩ = some (.string pv) := fun o => (bw.alloc o).cell 2
  go_wp2_with fail
  have hca : Below w6.heap.size w6 (wi.alloc (.cells #[.int .i64 pk, .string pc, .string pv] 43)) := hci.alloc hci.size _
  obtain ⟨wj, hwj⟩ : ∃ W, W = wi.alloc (.cells #[.int .i64 pk, .string pc, .string pv] 43) := ⟨_, rfl⟩
  rw [← hwj] at hca
  rw [← hwj]
  clear hwj hci yw0 yw1 yw2 bw
  refine (eqPlan_q2 ⟨pk, pc, pv⟩ _ _ wj ⟨_, rfl, rfl⟩ ⟨_, rfl, rfl⟩).mono ?_
  rintro e w7 ⟨rfl, hcj⟩
  have hc7 := hca.trans (hcj.mono hca.size)
  clear hca hcj
  replace bx0 := bx0.below hc7 bx0.lt
  replace bx1 := bx1.below hc7 bx1.lt
  replace bp0 := bp0.below hc7 (by omega)
  replace bp1 := bp1.below hc7 (by omega)
  have X0 := Lib.hid (fun W (hb : Below w7.heap.size w7 W) => (hx0.below tableE_good hc7).below tableE_good hb)
  have X1 := Lib.hid (fun W (hb : Below w7.heap.size w7 W) => (hx1.below hc7).below hb)
  have hb7 := hb6.trans (hc7.mono hb6.size)
  have z7 : w.heap.size + 2 ≤ w7.heap.size := Nat.le_trans z6 hc7.size
  have lx0 := bx0.lt
  have lx1 := bx1.lt
  clear hc7 hb6 z6 hx0 hx1
  have hrr : (pe != pe) = false := by simp
  have hb77 : Below w7.heap.size w7 w7 := Below.refl _ _
  have zz77 : w7.heap.size ≤ w7.heap.size := Nat.le_refl _
  have yp0_0 : w7.cell? ⟨w.heap.size, 0, none⟩ = some (.string p0s0) := bp0.cell 0
  have yp0_1 : w7.cell? ⟨w.heap.size, 1, none⟩ = some (.string p0s1) := bp0.cell 1
  have yp0_2 : w7.cell? ⟨w.heap.size, 2, none⟩ = some (.slice p0a2 p0n2 p0c2) := bp0.cell 2
  have yp0_3 : w7.cell? ⟨w.heap.size, 3, none⟩ = some (.slice p0a3 p0n3 p0c3) := bp0.cell 3
  have yx0_0 : w7.cell? ⟨u0.heap.size, 0, none⟩ = some (.string x0s0) := bx0.cell 0
  have yx0_1 : w7.cell? ⟨u0.heap.size, 1, none⟩ = some (.string x0s1) := bx0.cell 1
  have yx0_2 : w7.cell? ⟨u0.heap.size, 2, none⟩ = some (.slice x0a2 x0n2 x0c2) := bx0.cell 2
  have yx0_3 : w7.cell? ⟨u0.heap.size, 3, none⟩ = some (.slice x0a3 x0n3 x0c3) := bx0.cell 3
  go_wp2_with fail
  go_region_held3 (fun w' => w'.cell? ⟨w.heap.size, 0, none⟩ = some (.string p0s0) ∧ w'.cell? ⟨w.heap.size, 1, none⟩ = some (.string p0s1) ∧ w'.cell? ⟨w.heap.size, 2, none⟩ = some (.slice p0a2 p0n2 p0c2) ∧ w'.cell? ⟨w.heap.size, 3, none⟩ = some (.slice p0a3 p0n3 p0c3) ∧ w'.cell? ⟨u0.heap.size, 0, none⟩ = some (.string x0s0) ∧ w'.cell? ⟨u0.heap.size, 1, none⟩ = some (.string x0s1) ∧ w'.cell? ⟨u0.heap.size, 2, none⟩ = some (.slice x0a2 x0n2 x0c2) ∧ w'.cell? ⟨u0.heap.size, 3, none⟩ = some (.slice x0a3 x0n3 x0c3) ∧ Blk w' (w.heap.size + 1) 25 #[.string p1s0, .slice p1a1 p1n1 p1c1, .slice p1a2 p1n2 p1c2, .string p1s3, .bool p1b4, .int .i64 p1i5] ∧ Blk w' u1.heap.size 30 #[.string x1s0, .slice x1a1 x1n1 x1c1, .slice x1a2 x1n2 x1c2, .string x1s3, .bool x1b4, .int .i64 x1i5] ∧ Below w.heap.size w w' ∧ Below w7.heap.size w7 w' ∧ w7.heap.size ≤ w'.heap.size)
    (first | (go_split_ands; refine ⟨?_, ?_, ?_, ?_, ?_, ?_, ?_, ?_, ?_, ?_, ?_, ?_, ?_⟩ <;> first | (rw [hbc.cell (by first | omega | (simp; omega))]; assumption) | (refine Blk.below (by assumption) hbc ?_; first | omega | (simp; omega)) | (refine Below.trans ?_ (hbc.mono ?_) <;> first | assumption | exact Below.drew (by assumption) | omega | (simp; omega)) | (have := hbc.size; first | omega | (simp at this ⊢; omega))) | (refine ⟨?_, ?_, ?_, ?_, ?_, ?_, ?_, ?_, ?_, ?_, ?_, ?_, ?_⟩ <;> first | exact Below.drew (by assumption) | exact Blk.drew (by assumption) | go_keep))
    (first | (go_at_call 14; refine (toTable_q x0 _ _ N0.out ?_).mono ?_; (exact A0.out _ (by go_split_ands; assumption)); rintro e w' ⟨va, rfl, hva, hbc⟩) | (go_at_call 16; refine (eqTable_q x0 _ va _ N0.out ?_ hva).mono ?_; (exact X0.out _ (by go_split_ands; assumption)); rintro e w' ⟨rfl, hbc⟩))
  obtain ⟨w8, rfl⟩ : ∃ W : World, W = w' := ⟨_, rfl⟩
  clear hb77 zz77 hb7 hva hbc yp0_0 yx0_0 yp0_1 yx0_1 yp0_2 yx0_2 yp0_3 yx0_3 bp0 bx0 bp1 bx1
  have bp1 : Blk w8 (w.heap.size + 1) 25 #[.string p1s0, .slice p1a1 p1n1 p1c1, .slice p1a2 p1n2 p1c2, .string p1s3, .bool p1b4, .int .i64 p1i5] := by go_split_ands; assumption
  have bx1 : Blk w8 u1.heap.size 30 #[.string x1s0, .slice x1a1 x1n1 x1c1, .slice x1a2 x1n2 x1c2, .string x1s3, .bool x1b4, .int .i64 x1i5] := by go_split_ands; assumption
  have hb7 : Below w.heap.size w w8 := by go_split_ands; assumption
  have hb77 : Below w7.heap.size w7 w8 := by go_split_ands; assumption
  have zz77 : w7.heap.size ≤ w8.heap.size := by go_split_ands; assumption
  have yp1_0 : w8.cell? ⟨w.heap.size + 1, 0, none⟩ = some (.string p1s0) := bp1.cell 0
  have yp1_1 : w8.cell? ⟨w.heap.size + 1, 1, none⟩ = some (.slice p1a1 p1n1 p1c1) := bp1.cell 1
  have yp1_2 : w8.cell? ⟨w.heap.size + 1, 2, none⟩ = some (.slice p1a2 p1n2 p1c2) := bp1.cell 2
  have yp1_3 : w8.cell? ⟨w.heap.size + 1, 3, none⟩ = some (.string p1s3) := bp1.cell 3
  have yp1_4 : w8.cell? ⟨w.heap.size + 1, 4, none⟩ = some (.bool p1b4) := bp1.cell 4
  have yp1_5 : w8.cell? ⟨w.heap.size + 1, 5, none⟩ = some (.int .i64 p1i5) := bp1.cell 5
  have yx1_0 : w8.cell? ⟨u1.heap.size, 0, none⟩ = some (.string x1s0) := bx1.cell 0
  have yx1_1 : w8.cell? ⟨u1.heap.size, 1, none⟩ = some (.slice x1a1 x1n1 x1c1) := bx1.cell 1
  have yx1_2 : w8.cell? ⟨u1.heap.size, 2, none⟩ = some (.slice x1a2 x1n2 x1c2) := bx1.cell 2
  have yx1_3 : w8.cell? ⟨u1.heap.size, 3, none⟩ = some (.string x1s3) := bx1.cell 3
  have yx1_4 : w8.cell? ⟨u1.heap.size, 4, none⟩ = some (.bool x1b4) := bx1.cell 4
  have yx1_5 : w8.cell? ⟨u1.heap.size, 5, none⟩ = some (.int .i64 x1i5) := bx1.cell 5
  go_wp2_with fail
  go_region_held3 (fun w' => w'.cell? ⟨w.heap.size + 1, 0, none⟩ = some (.string p1s0) ∧ w'.cell? ⟨w.heap.size + 1, 1, none⟩ = some (.slice p1a1 p1n1 p1c1) ∧ w'.cell? ⟨w.heap.size + 1, 2, none⟩ = some (.slice p1a2 p1n2 p1c2) ∧ w'.cell? ⟨w.heap.size + 1, 3, none⟩ = some (.string p1s3) ∧ w'.cell? ⟨w.heap.size + 1, 4, none⟩ = some (.bool p1b4) ∧ w'.cell? ⟨w.heap.size + 1, 5, none⟩ = some (.int .i64 p1i5) ∧ w'.cell? ⟨u1.heap.size, 0, none⟩ = some (.string x1s0) ∧ w'.cell? ⟨u1.heap.size, 1, none⟩ = some (.slice x1a1 x1n1 x1c1) ∧ w'.cell? ⟨u1.heap.size, 2, none⟩ = some (.slice x1a2 x1n2 x1c2) ∧ w'.cell? ⟨u1.heap.size, 3, none⟩ = some (.string x1s3) ∧ w'.cell? ⟨u1.heap.size, 4, none⟩ = some (.bool x1b4) ∧ w'.cell? ⟨u1.heap.size, 5, none⟩ = some (.int .i64 x1i5) ∧ Below w.heap.size w w' ∧ Below w7.heap.size w7 w' ∧ w7.heap.size ≤ w'.heap.size)
    (first | (go_split_ands; refine ⟨?_, ?_, ?_, ?_, ?_, ?_, ?_, ?_, ?_, ?_, ?_, ?_, ?_, ?_, ?_⟩ <;> first | (rw [hbc.cell (by first | omega | (simp; omega))]; assumption) | (refine Blk.below (by assumption) hbc ?_; first | omega | (simp; omega)) | (refine Below.trans ?_ (hbc.mono ?_) <;> first | assumption | exact Below.drew (by assumption) | omega | (simp; omega)) | (have := hbc.size; first | omega | (simp at this ⊢; omega))) | (refine ⟨?_, ?_, ?_, ?_, ?_, ?_, ?_, ?_, ?_, ?_, ?_, ?_, ?_, ?_, ?_⟩ <;> first | exact Below.drew (by assumption) | exact Blk.drew (by assumption) | go_keep))
    (first | (go_at_call 9; refine (toQuery_q x1 _ _ N1.out ?_).mono ?_; (exact A1.out _ (by go_split_ands; assumption)); rintro e w' ⟨va, rfl, hva, hbc⟩) | (go_at_call 11; refine (eqQuery_q x1 _ va _ N1.out ?_ hva).mono ?_; (exact X1.out _ (by go_split_ands; assumption)); rintro e w' ⟨rfl, hbc⟩))
  have hb9 : Below w.heap.size w w' := by go_split_ands; assumption
  go_wp2_with fail
  go_ret
  exact ⟨rfl, hb9⟩
end Go.Proofs.Ytfaphgpelkkccaa
