/- The walk of the law FnExactQueryText. -/
import Derived.Test.YtfimopcklknekaaGreatDoorQTextImpl
import Derived.Test.YtfimopcklknekaaGreatDoorQTextSpec
namespace Go.Proofs.YtfimopcklknekaaGreatDoor
open Go.RowKit
set_option linter.unusedVariables false


set_option maxHeartbeats 8000000 in
theorem FnExactQueryText_walk (x0 : QueryV) (v0 : Value) (w : World) (hw0 : QueryWf x0) (at0 : QAt w v0 x0) :
    Calls Tryz.prog 3 #[v0] w fun e w' => e = .returned (.bool true) ∧ Below w.heap.size w w' := by
  obtain ⟨p0s0, p0a1, p0n1, p0c1, p0a2, p0n2, p0c2, p0s3, p0b4, p0i5, rfl⟩ := at0.agg
  have A0 := Lib.hid (fun W (hb : Below w.heap.size w W) => at0.below hb)
  clear at0
  go_enter Tryz.func3, Tryz.ntmps3
  go_wp2_with fail
  obtain ⟨W0, hW0⟩ : ∃ W0, W0 = (w.alloc (.cells #[.string p0s0, .slice p0a1 p0n1 p0c1, .slice p0a2 p0n2 p0c2, .string p0s3, .bool p0b4, .int .i64 p0i5] 25)) := ⟨_, rfl⟩
  have bp0 : Blk W0 (w.heap.size) 25 #[.string p0s0, .slice p0a1 p0n1 p0c1, .slice p0a2 p0n2 p0c2, .string p0s3, .bool p0b4, .int .i64 p0i5] := by rw [hW0]; exact (Blk.new w 25 #[.string p0s0, .slice p0a1 p0n1 p0c1, .slice p0a2 p0n2 p0c2, .string p0s3, .bool p0b4, .int .i64 p0i5])
  have hb0 : Below w.heap.size w W0 := by rw [hW0]; exact ((Below.refl w.heap.size w).alloc (Nat.le_refl _) _)
  have z0 : w.heap.size + 1 ≤ W0.heap.size := by rw [hW0]; simp
  rw [← hW0]
  clear hW0
  refine (szQuery_q x0 _ 1048576 W0 (by omega) (by omega) hw0 (A0.out _ hb0)).mono ?_
  rintro e w1 ⟨r1, hr1, rfl, hc1⟩
  have hb1 := hb0.trans (hc1.mono hb0.size)
  replace bp0 := bp0.below hc1 (by omega)
  have z1 : w.heap.size + 1 ≤ w1.heap.size := Nat.le_trans z0 hc1.size
  clear hc1
  by_cases k1 : r1 < 0
  · clear hr1
    go_wp2_with fail
    go_ret
    exact ⟨rfl, hb1⟩
  have N0 := Lib.hid (show queryNeed x0 ≤ 1048576 from by omega)
  have l1 : r1 ≤ 1048576 := by omega
  clear hr1
  obtain ⟨y0_0, y0_1, y0_2, y0_3, y0_4, y0_5⟩ := bp0.c6
  go_wp2_with fail
  refine (toQuery_q x0 _ _ N0.out (A0.out _ hb1)).mono ?_
  rintro e wa ⟨va, rfl, hva, hca⟩
  go_wp2_with fail
  refine (QueryText_spec x0 va _ hw0 (small_cols N0.out) hva).mono ?_
  rintro e wb ⟨ts, hts, rfl, hcb⟩
  have HTS := Lib.hid hts
  clear hts
  replace bp0 := (bp0.below hca (by omega)).below hcb (by have := hca.size; omega)
  have hbb := (hb1.trans (hca.mono hb1.size)).trans (hcb.mono (by have := hca.size; have := hb1.size; omega))
  have zb : w.heap.size + 1 ≤ wb.heap.size := Nat.le_trans z1 (Nat.le_trans hca.size hcb.size)
  clear hva hca hcb y0_0 y0_1 y0_2 y0_3 y0_4 y0_5
  have y0 : wb.cell? ⟨w.heap.size, 0, none⟩ = some (.string p0s0) := bp0.cell 0
  have y1 : wb.cell? ⟨w.heap.size, 1, none⟩ = some (.slice p0a1 p0n1 p0c1) := bp0.cell 1
  have y2 : wb.cell? ⟨w.heap.size, 2, none⟩ = some (.slice p0a2 p0n2 p0c2) := bp0.cell 2
  have y3 : wb.cell? ⟨w.heap.size, 3, none⟩ = some (.string p0s3) := bp0.cell 3
  have y4 : wb.cell? ⟨w.heap.size, 4, none⟩ = some (.bool p0b4) := bp0.cell 4
  have y5 : wb.cell? ⟨w.heap.size, 5, none⟩ = some (.int .i64 p0i5) := bp0.cell 5
  go_wp2_with fail
  refine (toQuery_q x0 _ _ N0.out (A0.out _ hbb)).mono ?_
  rintro e u0 ⟨vx0, rfl, hx0, hc⟩
  have hbu0 := hbb.trans (hc.mono hbb.size)
  replace bp0 := bp0.below hc (by omega)
  have zu0 : w.heap.size + 1 ≤ u0.heap.size := Nat.le_trans zb hc.size
  clear hc y0 y1 y2 y3 y4 y5
  obtain ⟨x0s0, x0a1, x0n1, x0c1, x0a2, x0n2, x0c2, x0s3, x0b4, x0i5, rfl⟩ := hx0.agg
  go_wp2_with fail
  obtain ⟨w6, hw6⟩ : ∃ w6, w6 = u0.alloc (.cells #[.string x0s0, .slice x0a1 x0n1 x0c1, .slice x0a2 x0n2 x0c2, .string x0s3, .bool x0b4, .int .i64 x0i5] 30) := ⟨_, rfl⟩
  have bx0 : Blk w6 u0.heap.size 30 #[.string x0s0, .slice x0a1 x0n1 x0c1, .slice x0a2 x0n2 x0c2, .string x0s3, .bool x0b4, .int .i64 x0i5] := by rw [hw6]; exact Blk.new _ _ _
  replace bp0 := bp0.alloc (.cells #[.string x0s0, .slice x0a1 x0n1 x0c1, .slice x0a2 x0n2 x0c2, .string x0s3, .bool x0b4, .int .i64 x0i5] 30)
  replace hx0 := hx0.below ((Below.refl _ _).alloc (Nat.le_refl _) (.cells #[.string x0s0, .slice x0a1 x0n1 x0c1, .slice x0a2 x0n2 x0c2, .string x0s3, .bool x0b4, .int .i64 x0i5] 30))
  have hb6 := hbu0.alloc hbu0.size (.cells #[.string x0s0, .slice x0a1 x0n1 x0c1, .slice x0a2 x0n2 x0c2, .string x0s3, .bool x0b4, .int .i64 x0i5] 30)
  have z6 : w.heap.size + 1 ≤ w6.heap.size := by rw [hw6]; simp; omega
  rw [← hw6] at bp0 hx0 hb6
  rw [← hw6]
  clear hw6 hbu0
  refine (QueryText_impl x0 _ w6 hw0 (small_cols N0.out) hx0).mono ?_
  rintro e w7 ⟨ti, hti, rfl, hc7⟩
  obtain rfl : ts = ti := ba_ext (by rw [hti, HTS.out])
  clear hti HTS
  replace bx0 := bx0.below hc7 bx0.lt
  replace bp0 := bp0.below hc7 (by omega)
  have X0 := Lib.hid (fun W (hb : Below w7.heap.size w7 W) => (hx0.below hc7).below hb)
  have hb7 := hb6.trans (hc7.mono hb6.size)
  have z7 : w.heap.size + 1 ≤ w7.heap.size := Nat.le_trans z6 hc7.size
  have lx0 := bx0.lt
  clear hc7 hb6 z6 hx0
  have hrr : (ts.toList == ts.toList) = true := beq_self_eq_true _
  have hb77 : Below w7.heap.size w7 w7 := Below.refl _ _
  have zz77 : w7.heap.size ≤ w7.heap.size := Nat.le_refl _
  have yp0_0 : w7.cell? ⟨w.heap.size, 0, none⟩ = some (.string p0s0) := bp0.cell 0
  have yp0_1 : w7.cell? ⟨w.heap.size, 1, none⟩ = some (.slice p0a1 p0n1 p0c1) := bp0.cell 1
  have yp0_2 : w7.cell? ⟨w.heap.size, 2, none⟩ = some (.slice p0a2 p0n2 p0c2) := bp0.cell 2
  have yp0_3 : w7.cell? ⟨w.heap.size, 3, none⟩ = some (.string p0s3) := bp0.cell 3
  have yp0_4 : w7.cell? ⟨w.heap.size, 4, none⟩ = some (.bool p0b4) := bp0.cell 4
  have yp0_5 : w7.cell? ⟨w.heap.size, 5, none⟩ = some (.int .i64 p0i5) := bp0.cell 5
  have yx0_0 : w7.cell? ⟨u0.heap.size, 0, none⟩ = some (.string x0s0) := bx0.cell 0
  have yx0_1 : w7.cell? ⟨u0.heap.size, 1, none⟩ = some (.slice x0a1 x0n1 x0c1) := bx0.cell 1
  have yx0_2 : w7.cell? ⟨u0.heap.size, 2, none⟩ = some (.slice x0a2 x0n2 x0c2) := bx0.cell 2
  have yx0_3 : w7.cell? ⟨u0.heap.size, 3, none⟩ = some (.string x0s3) := bx0.cell 3
  have yx0_4 : w7.cell? ⟨u0.heap.size, 4, none⟩ = some (.bool x0b4) := bx0.cell 4
  have yx0_5 : w7.cell? ⟨u0.heap.size, 5, none⟩ = some (.int .i64 x0i5) := bx0.cell 5
  go_wp2_with fail
  go_region_held3 (fun w' => w'.cell? ⟨w.heap.size, 0, none⟩ = some (.string p0s0) ∧ w'.cell? ⟨w.heap.size, 1, none⟩ = some (.slice p0a1 p0n1 p0c1) ∧ w'.cell? ⟨w.heap.size, 2, none⟩ = some (.slice p0a2 p0n2 p0c2) ∧ w'.cell? ⟨w.heap.size, 3, none⟩ = some (.string p0s3) ∧ w'.cell? ⟨w.heap.size, 4, none⟩ = some (.bool p0b4) ∧ w'.cell? ⟨w.heap.size, 5, none⟩ = some (.int .i64 p0i5) ∧ w'.cell? ⟨u0.heap.size, 0, none⟩ = some (.string x0s0) ∧ w'.cell? ⟨u0.heap.size, 1, none⟩ = some (.slice x0a1 x0n1 x0c1) ∧ w'.cell? ⟨u0.heap.size, 2, none⟩ = some (.slice x0a2 x0n2 x0c2) ∧ w'.cell? ⟨u0.heap.size, 3, none⟩ = some (.string x0s3) ∧ w'.cell? ⟨u0.heap.size, 4, none⟩ = some (.bool x0b4) ∧ w'.cell? ⟨u0.heap.size, 5, none⟩ = some (.int .i64 x0i5) ∧ Below w.heap.size w w' ∧ Below w7.heap.size w7 w' ∧ w7.heap.size ≤ w'.heap.size)
    (first | (go_split_ands; refine ⟨?_, ?_, ?_, ?_, ?_, ?_, ?_, ?_, ?_, ?_, ?_, ?_, ?_, ?_, ?_⟩ <;> first | (rw [hbc.cell (by first | omega | (simp; omega))]; assumption) | (refine Blk.below (by assumption) hbc ?_; first | omega | (simp; omega)) | (refine Below.trans ?_ (hbc.mono ?_) <;> first | assumption | exact Below.drew (by assumption) | omega | (simp; omega)) | (have := hbc.size; first | omega | (simp at this ⊢; omega))) | (refine ⟨?_, ?_, ?_, ?_, ?_, ?_, ?_, ?_, ?_, ?_, ?_, ?_, ?_, ?_, ?_⟩ <;> first | exact Below.drew (by assumption) | exact Blk.drew (by assumption) | go_keep))
    (first | (go_at_call 6; refine (toQuery_q x0 _ _ N0.out ?_).mono ?_; (exact A0.out _ (by go_split_ands; assumption)); rintro e w' ⟨va, rfl, hva, hbc⟩) | (go_at_call 8; refine (eqQuery_q x0 _ va _ N0.out ?_ hva).mono ?_; (exact X0.out _ (by go_split_ands; assumption)); rintro e w' ⟨rfl, hbc⟩))
  have hb9 : Below w.heap.size w w' := by go_split_ands; assumption
  go_wp2_with fail
  go_ret
  exact ⟨rfl, hb9⟩
end Go.Proofs.YtfimopcklknekaaGreatDoor
