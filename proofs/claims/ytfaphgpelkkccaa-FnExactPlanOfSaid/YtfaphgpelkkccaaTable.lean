/- Tables and plans by value. (Written by wip/gen/typegen.py.) -/
import Derived.Test.YtfaphgpelkkccaaStrsQ
namespace Go.Proofs.Ytfaphgpelkkccaa
open Go.RowKit
set_option linter.unusedVariables false

/-- Table: its contents. -/
structure TableV where
  name : ByteArray
  global : ByteArray
  columns : List ByteArray
  indexes : List ByteArray
deriving DecidableEq

def tableE : Enc TableV := fun w lo hi cs x => ∃ v2 v3, cs = [.string x.name, .string x.global, v2, v3] ∧ strsE w lo hi [v2] x.columns ∧ strsE w lo hi [v3] x.indexes
theorem tableE_good : Good tableE 4 where
  len := by rintro w lo hi cs x ⟨v2, v3, rfl, _⟩; rfl
  keep := by rintro w w' lo hi cs x ⟨v2, v3, rfl, h2, h3⟩ hk; exact ⟨v2, v3, rfl, strsE_good.keep h2 hk, strsE_good.keep h3 hk⟩
  mono := by rintro w lo hi lo' hi' cs x ⟨v2, v3, rfl, h2, h3⟩ k1 k2; exact ⟨v2, v3, rfl, strsE_good.mono h2 k1 k2, strsE_good.mono h3 k1 k2⟩
abbrev TableAt := AtE tableE
theorem tableE_v {w : World} {lo hi : Nat} {cs : List Value} {x : TableV} (h : tableE w lo hi cs x) : ∃ d0 d1 a2 n2 c2 a3 n3 c3, cs = [.string d0, .string d1, .slice a2 n2 c2, .slice a3 n3 c3] := by
  obtain ⟨v2, v3, rfl, h2, h3⟩ := h
  obtain ⟨a2, n2, c2, rfl⟩ := strsE_v h2
  obtain ⟨a3, n3, c3, rfl⟩ := strsE_v h3
  exact ⟨_, _, a2, n2, c2, a3, n3, c3, rfl⟩
theorem TableAt_agg {w : World} {v : Value} {x : TableV} (h : TableAt w v x) : ∃ d0 d1 a2 n2 c2 a3 n3 c3, v = .agg #[.string d0, .string d1, .slice a2 n2 c2, .slice a3 n3 c3] := by
  obtain ⟨cs, rfl, h⟩ := h
  obtain ⟨d0, d1, a2, n2, c2, a3, n3, c3, rfl⟩ := tableE_v h
  exact ⟨_, _, a2, n2, c2, a3, n3, c3, rfl⟩
def tableNeed (x : TableV) : Nat := x.name.size + x.global.size + strsNeed x.columns + strsNeed x.indexes
def TableWf (x : TableV) : Prop := x.name.size ≤ 9223372036854775807 ∧ x.global.size ≤ 9223372036854775807 ∧ StrsWf x.columns ∧ StrsWf x.indexes
set_option maxHeartbeats 2000000 in
theorem szTable_q (x : TableV) (v : Value) (left : Int) (w : World) (h0 : 0 ≤ left) (h1 : left ≤ 1048576) (hw : TableWf x) (h : TableAt w v x) :
    Calls Try.prog 12 #[v, .int .i64 left] w (SzPost (tableNeed x) left w) := by
  obtain ⟨cs, rfl, v2, v3, rfl, A2, A3⟩ := h
  obtain ⟨d0, d1, d2, d3⟩ := x
  obtain ⟨a2, n2, c2, rfl⟩ := strsE_v A2
  have L2 := Lib.hid (fun W (hb : Below w.heap.size w W) => strsE_good.below A2 hb)
  clear A2
  obtain ⟨a3, n3, c3, rfl⟩ := strsE_v A3
  have L3 := Lib.hid (fun W (hb : Below w.heap.size w W) => strsE_good.below A3 hb)
  clear A3
  obtain ⟨q0, q1, q2, q3⟩ := hw
  have Q2 := Lib.hid q2
  clear q2
  have Q3 := Lib.hid q3
  clear q3
  simp only [tableNeed] at *
  by_cases k0 : left < d0.size
  · skip
    have F := Lib.hid (show left < ((d0.size + d1.size + strsNeed d2 + strsNeed d3 : Nat) : Int) from by omega)
    (try clear hr)
    go_enter Try.func12, Try.ntmps12
    go_wp2_with fail
    go_ret
    exact ⟨-1, .inr ⟨F.out, rfl⟩, rfl, ((Below.refl _ _).alloc (Nat.le_refl _) _)⟩
  by_cases k1 : left - d0.size < d1.size
  · skip
    have F := Lib.hid (show left < ((d0.size + d1.size + strsNeed d2 + strsNeed d3 : Nat) : Int) from by omega)
    (try clear hr)
    go_enter Try.func12, Try.ntmps12
    go_wp2_with fail
    go_ret
    exact ⟨-1, .inr ⟨F.out, rfl⟩, rfl, ((Below.refl _ _).alloc (Nat.le_refl _) _)⟩
  go_enter Try.func12, Try.ntmps12
  go_wp2_with fail
  refine (szStringS_q d2 _ (left - d0.size - d1.size) _ (by omega) (by omega) Q2.out (L2.out _ ((Below.refl _ _).alloc (Nat.le_refl _) _))).mono ?_
  rintro e w1 ⟨r1, hr, rfl, hc⟩
  have hb1 := ((Below.refl w.heap.size w).alloc (Nat.le_refl _) (.cells #[.string d0, .string d1, .slice a2 n2 c2, .slice a3 n3 c3] 35)).trans (hc.mono (by simp))
  have bk1 := (Blk.new w 35 #[.string d0, .string d1, .slice a2 n2 c2, .slice a3 n3 c3]).below hc (by simp)
  by_cases kr1 : r1 < 0
  · skip
    have F := Lib.hid (show left < ((d0.size + d1.size + strsNeed d2 + strsNeed d3 : Nat) : Int) from by omega)
    (try clear hr)
    go_wp2_with fail
    go_ret
    exact ⟨-1, .inr ⟨F.out, rfl⟩, rfl, hb1⟩
  have e1 := Lib.hid (show r1 = left - d0.size - d1.size - strsNeed d2 from by omega)
  have l1 : r1 ≤ 1048576 := by omega
  clear hr hc
  (try clear y0 y1 y2 y3)
  obtain ⟨y0, y1, y2, y3⟩ := bk1.c4
  go_wp2_with fail
  refine (szStringS_q d3 _ (r1) w1 (by omega) (by omega) Q3.out (L3.out _ hb1)).mono ?_
  rintro e w2 ⟨r2, hr, rfl, hc⟩
  have hb2 := hb1.trans (hc.mono hb1.size)
  have bk2 := bk1.below hc bk1.lt
  by_cases kr2 : r2 < 0
  · skip
    have F := Lib.hid (show left < ((d0.size + d1.size + strsNeed d2 + strsNeed d3 : Nat) : Int) from by have := e1.out; omega)
    (try clear hr)
    go_wp2_with fail
    go_ret
    exact ⟨-1, .inr ⟨F.out, rfl⟩, rfl, hb2⟩
  have e2 := Lib.hid (show r2 = r1 - strsNeed d3 from by omega)
  have l2 : r2 ≤ 1048576 := by have := e1.out; omega
  clear hr hc
  (try clear y0 y1 y2 y3)
  obtain ⟨y0, y1, y2, y3⟩ := bk2.c4
  have F := Lib.hid (show (((d0.size + d1.size + strsNeed d2 + strsNeed d3 : Nat) : Int) ≤ left ∧ r2 = left - ((d0.size + d1.size + strsNeed d2 + strsNeed d3 : Nat) : Int)) from by have := e1.out; have := e2.out; omega)
  go_wp2_with fail
  go_ret
  exact ⟨_, .inl F.out, rfl, hb2⟩
set_option maxHeartbeats 2000000 in
theorem toTable_new (x : TableV) (v : Value) (w : World) (hn : tableNeed x ≤ 1048576) (h : TableAt w v x) :
    Calls Try.prog 14 #[v] w (NewPost tableE x w) := by
  obtain ⟨cs, rfl, v2, v3, rfl, A2, A3⟩ := h
  obtain ⟨d0, d1, d2, d3⟩ := x
  obtain ⟨a2, n2, c2, rfl⟩ := strsE_v A2
  have L2 := Lib.hid (fun W (hb : Below w.heap.size w W) => strsE_good.below A2 hb)
  clear A2
  obtain ⟨a3, n3, c3, rfl⟩ := strsE_v A3
  have L3 := Lib.hid (fun W (hb : Below w.heap.size w W) => strsE_good.below A3 hb)
  clear A3
  simp only [tableNeed] at hn
  have N2 := Lib.hid (show strsNeed d2 ≤ 1048576 from by omega)
  have N3 := Lib.hid (show strsNeed d3 ≤ 1048576 from by omega)
  clear hn
  go_enter Try.func14, Try.ntmps14
  go_wp2_with fail
  obtain ⟨W0, hW0⟩ : ∃ W0, W0 = (((w.alloc (.cells #[.string d0, .string d1, .slice a2 n2 c2, .slice a3 n3 c3] 35)).alloc (.cells #[.string ⟨#[]⟩, .string ⟨#[]⟩, .slice none 0 0, .slice none 0 0] 38)).alloc (.cells #[.string d0, .string d1, .slice none 0 0, .slice none 0 0] 38)) := ⟨_, rfl⟩
  have z0 : W0.heap.size = w.heap.size + 3 := by rw [hW0]; simp
  have bA : Blk W0 w.heap.size 35 #[.string d0, .string d1, .slice a2 n2 c2, .slice a3 n3 c3] := by rw [hW0]; exact ((Blk.new _ _ _).alloc _).alloc _
  have bB : Blk W0 (w.heap.size + 1) 38 #[.string ⟨#[]⟩, .string ⟨#[]⟩, .slice none 0 0, .slice none 0 0] := by rw [hW0]; exact (by simpa using Blk.new (w.alloc (.cells #[.string d0, .string d1, .slice a2 n2 c2, .slice a3 n3 c3] 35)) 38 #[.string ⟨#[]⟩, .string ⟨#[]⟩, .slice none 0 0, .slice none 0 0] : Blk _ (w.heap.size + 1) _ _).alloc _
  have bC : Blk W0 (w.heap.size + 1 + 1) 38 #[.string d0, .string d1, .slice none 0 0, .slice none 0 0] := by rw [hW0]; simpa using Blk.new ((w.alloc (.cells #[.string d0, .string d1, .slice a2 n2 c2, .slice a3 n3 c3] 35)).alloc (.cells #[.string ⟨#[]⟩, .string ⟨#[]⟩, .slice none 0 0, .slice none 0 0] 38)) 38 #[.string d0, .string d1, .slice none 0 0, .slice none 0 0]
  have hbW : Below w.heap.size w W0 := by rw [hW0]; exact (((Below.refl _ _).alloc (Nat.le_refl _) _).alloc (by simp) _).alloc (by simp; omega) _
  rw [← hW0]
  clear hW0
  refine (toStringS_new d2 _ W0 N2.out (L2.out _ hbW)).mono ?_
  rintro e w0 ⟨v2, rfl, own2, hc⟩
  obtain ⟨ra2, rn2, rc2, rfl⟩ := strsE_v own2
  replace bA := bA.below hc (by omega)
  replace bB := bB.below hc (by omega)
  replace bC := bC.below hc (by omega)
  replace hbW := hbW.trans (hc.mono hbW.size)
  have s0 := hc.size
  clear hc
  have ga3 : w0.cell? ⟨w.heap.size, 3, none⟩ = some (.slice a3 n3 c3) := bA.cell 3
  have gc2 : w0.cell? ⟨w.heap.size + 1 + 1, 2, none⟩ = some (.slice none 0 0) := bC.cell 2
  have fc2 := bC.frozen 2
  go_wp2_with fail
  obtain ⟨W1, hW1⟩ : ∃ W, W = (w0.setCell ⟨w.heap.size + 1 + 1, 2, none⟩ (.slice ra2 rn2 rc2)) := ⟨_, rfl⟩
  have T : Touched w.heap.size (w.heap.size + 3) w0 W1 := by rw [hW1]; exact ((Touched.refl w.heap.size (w.heap.size + 3) w0).setCell (p := ⟨w.heap.size + 1 + 1, 2, none⟩) (by simp; omega) (by simp) (.slice ra2 rn2 rc2))
  replace bC : Blk W1 (w.heap.size + 1 + 1) 38 #[.string d0, .string d1, .slice ra2 rn2 rc2, .slice none 0 0] := by rw [hW1]; simpa using (bC.set_ 2 (.slice ra2 rn2 rc2))
  replace bA : Blk W1 w.heap.size 35 #[.string d0, .string d1, .slice a2 n2 c2, .slice a3 n3 c3] := by rw [hW1]; exact (bA.far (p := ⟨w.heap.size + 1 + 1, 2, none⟩) (by simp; omega) (.slice ra2 rn2 rc2))
  replace bB : Blk W1 (w.heap.size + 1) 38 #[.string ⟨#[]⟩, .string ⟨#[]⟩, .slice none 0 0, .slice none 0 0] := by rw [hW1]; exact (bB.far (p := ⟨w.heap.size + 1 + 1, 2, none⟩) (by simp) (.slice ra2 rn2 rc2))
  rw [← hW1]
  clear hW1
  replace hbW := T.below hbW (Nat.le_refl _)
  replace own2 := strsE_good.mono (strsE_good.keep own2 (Kept.of_touched T (by omega))) (Nat.le_refl _) (Nat.le_of_eq T.size.symm)
  have t1 := T.size
  clear T gc2 fc2 ga3
  refine (toStringS_new d3 _ W1 N3.out (L3.out _ hbW)).mono ?_
  rintro e w1 ⟨v3, rfl, own3, hc⟩
  obtain ⟨ra3, rn3, rc3, rfl⟩ := strsE_v own3
  replace bA := bA.below hc (by omega)
  replace bB := bB.below hc (by omega)
  replace bC := bC.below hc (by omega)
  replace hbW := hbW.trans (hc.mono hbW.size)
  replace own2 := strsE_good.below own2 hc
  have s1 := hc.size
  clear hc
  have gc0 : w1.cell? ⟨w.heap.size + 1 + 1, 0, none⟩ = some (.string d0) := bC.cell 0
  have fc0 := bC.frozen 0
  have gb0 : w1.cell? ⟨w.heap.size + 1, 0, none⟩ = some (.string ⟨#[]⟩) := bB.cell 0
  have fb0 := bB.frozen 0
  have gc1 : w1.cell? ⟨w.heap.size + 1 + 1, 1, none⟩ = some (.string d1) := bC.cell 1
  have fc1 := bC.frozen 1
  have gb1 : w1.cell? ⟨w.heap.size + 1, 1, none⟩ = some (.string ⟨#[]⟩) := bB.cell 1
  have fb1 := bB.frozen 1
  have gc2 : w1.cell? ⟨w.heap.size + 1 + 1, 2, none⟩ = some (.slice ra2 rn2 rc2) := bC.cell 2
  have fc2 := bC.frozen 2
  have gb2 : w1.cell? ⟨w.heap.size + 1, 2, none⟩ = some (.slice none 0 0) := bB.cell 2
  have fb2 := bB.frozen 2
  have gc3 : w1.cell? ⟨w.heap.size + 1 + 1, 3, none⟩ = some (.slice none 0 0) := bC.cell 3
  have fc3 := bC.frozen 3
  have gb3 : w1.cell? ⟨w.heap.size + 1, 3, none⟩ = some (.slice none 0 0) := bB.cell 3
  have fb3 := bB.frozen 3
  clear bA bB bC
  go_wp2_with fail
  have T := ((((((Touched.refl w.heap.size (w.heap.size + 3) w1).setCell (p := ⟨w.heap.size + 1 + 1, 3, none⟩) (by simp; omega) (by simp) (.slice ra3 rn3 rc3)).setCell (p := ⟨w.heap.size + 1, 0, none⟩) (by simp) (by simp) (.string d0)).setCell (p := ⟨w.heap.size + 1, 1, none⟩) (by simp) (by simp) (.string d1)).setCell (p := ⟨w.heap.size + 1, 2, none⟩) (by simp) (by simp) (.slice ra2 rn2 rc2)).setCell (p := ⟨w.heap.size + 1, 3, none⟩) (by simp) (by simp) (.slice ra3 rn3 rc3))
  exact bodyPost_ret (v := .agg #[.string d0, .string d1, .slice ra2 rn2 rc2, .slice ra3 rn3 rc3]) (by simp [results, Try.results14, go_sem, gb0, gb1, gb2, gb3]) rfl
    ⟨[.string d0, .string d1, .slice ra2 rn2 rc2, .slice ra3 rn3 rc3], rfl, ⟨_, _, rfl, strsE_good.mono (strsE_good.keep own2 (Kept.of_touched T (by omega))) (by omega) (Nat.le_of_eq T.size.symm), strsE_good.mono (strsE_good.keep own3 (Kept.of_touched T (by omega))) (by omega) (Nat.le_of_eq T.size.symm)⟩, T.below hbW (Nat.le_refl _)⟩
theorem toTable_q (x : TableV) (v : Value) (w : World) (hn : tableNeed x ≤ 1048576) (h : TableAt w v x) :
    Calls Try.prog 14 #[v] w fun e w' => ∃ v', e = .returned v' ∧ TableAt w' v' x ∧ Below w.heap.size w w' :=
  (toTable_new x v w hn h).mono fun e w' ⟨cs, he, hE, hb⟩ => ⟨_, he, ⟨cs, rfl, tableE_good.mono hE (Nat.zero_le _) (Nat.le_refl _)⟩, hb⟩
set_option maxHeartbeats 2000000 in
theorem eqTable_q (x : TableV) (v u : Value) (w : World) (hn : tableNeed x ≤ 1048576) (h : TableAt w v x) (h2 : TableAt w u x) :
    Calls Try.prog 16 #[v, u] w (ValPost (.bool true) w) := by
  obtain ⟨cs, rfl, v2, v3, rfl, A2, A3⟩ := h
  obtain ⟨cs, rfl, u2, u3, rfl, B2, B3⟩ := h2
  obtain ⟨d0, d1, d2, d3⟩ := x
  obtain ⟨a2, n2, c2, rfl⟩ := strsE_v A2
  obtain ⟨ea2, en2, ec2, rfl⟩ := strsE_v B2
  have L2 := Lib.hid (fun W (hb : Below w.heap.size w W) => strsE_good.below A2 hb)
  have M2 := Lib.hid (fun W (hb : Below w.heap.size w W) => strsE_good.below B2 hb)
  clear A2 B2
  obtain ⟨a3, n3, c3, rfl⟩ := strsE_v A3
  obtain ⟨ea3, en3, ec3, rfl⟩ := strsE_v B3
  have L3 := Lib.hid (fun W (hb : Below w.heap.size w W) => strsE_good.below A3 hb)
  have M3 := Lib.hid (fun W (hb : Below w.heap.size w W) => strsE_good.below B3 hb)
  clear A3 B3
  simp only [tableNeed] at hn
  have N2 := Lib.hid (show strsNeed d2 ≤ 1048576 from by omega)
  have N3 := Lib.hid (show strsNeed d3 ≤ 1048576 from by omega)
  clear hn
  go_enter Try.func16, Try.ntmps16
  go_wp2_with fail
  obtain ⟨W0, hW0⟩ : ∃ W0, W0 = ((w.alloc (.cells #[.string d0, .string d1, .slice a2 n2 c2, .slice a3 n3 c3] 38)).alloc (.cells #[.string d0, .string d1, .slice ea2 en2 ec2, .slice ea3 en3 ec3] 38)) := ⟨_, rfl⟩
  have bA : Blk W0 w.heap.size 38 #[.string d0, .string d1, .slice a2 n2 c2, .slice a3 n3 c3] := by rw [hW0]; exact (Blk.new _ _ _).alloc _
  have bB : Blk W0 (w.heap.size + 1) 38 #[.string d0, .string d1, .slice ea2 en2 ec2, .slice ea3 en3 ec3] := by rw [hW0]; simpa using Blk.new (w.alloc (.cells #[.string d0, .string d1, .slice a2 n2 c2, .slice a3 n3 c3] 38)) 38 #[.string d0, .string d1, .slice ea2 en2 ec2, .slice ea3 en3 ec3]
  have hbW : Below w.heap.size w W0 := by rw [hW0]; exact (((Below.refl w.heap.size w).alloc (Nat.le_refl _) (.cells #[.string d0, .string d1, .slice a2 n2 c2, .slice a3 n3 c3] 38)).alloc (by simp) (.cells #[.string d0, .string d1, .slice ea2 en2 ec2, .slice ea3 en3 ec3] 38))
  have z : w.heap.size + 2 ≤ W0.heap.size := by rw [hW0]; simp
  rw [← hW0]
  clear hW0
  refine (eqStringS_q d2 _ _ W0 N2.out (L2.out _ hbW) (M2.out _ hbW)).mono ?_
  rintro e w0 ⟨rfl, hc⟩
  replace bA := bA.below hc (by omega)
  replace bB := bB.below hc (by omega)
  replace hbW := hbW.trans (hc.mono hbW.size)
  replace z := Nat.le_trans z hc.size
  clear hc
  (try clear xa0 xb0 xa1 xb1 xa2 xb2 xa3 xb3)
  obtain ⟨xa0, xa1, xa2, xa3⟩ := bA.c4
  obtain ⟨xb0, xb1, xb2, xb3⟩ := bB.c4
  go_wp2_with fail
  refine (eqStringS_q d3 _ _ w0 N3.out (L3.out _ hbW) (M3.out _ hbW)).mono ?_
  rintro e w1 ⟨rfl, hc⟩
  replace bA := bA.below hc (by omega)
  replace bB := bB.below hc (by omega)
  replace hbW := hbW.trans (hc.mono hbW.size)
  replace z := Nat.le_trans z hc.size
  clear hc
  (try clear xa0 xb0 xa1 xb1 xa2 xb2 xa3 xb3)
  obtain ⟨xa0, xa1, xa2, xa3⟩ := bA.c4
  obtain ⟨xb0, xb1, xb2, xb3⟩ := bB.c4
  go_wp2_with fail
  go_ret
  exact ⟨rfl, hbW⟩
/-- Plan: its contents. -/
structure PlanV where
  kind : Int
  column : ByteArray
  value : ByteArray
deriving DecidableEq

def planE : Enc PlanV := fun w lo hi cs x => cs = [.int .i64 x.kind, .string x.column, .string x.value]
theorem planE_good : Good planE 3 where
  len := by rintro w lo hi cs x rfl; rfl
  keep := by rintro w w' lo hi cs x rfl hk; rfl
  mono := by rintro w lo hi lo' hi' cs x rfl k1 k2; rfl
abbrev PlanAt := AtE planE
theorem planE_v {w : World} {lo hi : Nat} {cs : List Value} {x : PlanV} (h : planE w lo hi cs x) : ∃ d0 d1 d2, cs = [.int .i64 d0, .string d1, .string d2] := by
  subst h
  exact ⟨_, _, _, rfl⟩
theorem PlanAt_agg {w : World} {v : Value} {x : PlanV} (h : PlanAt w v x) : ∃ d0 d1 d2, v = .agg #[.int .i64 d0, .string d1, .string d2] := by
  obtain ⟨cs, rfl, h⟩ := h
  obtain ⟨d0, d1, d2, rfl⟩ := planE_v h
  exact ⟨_, _, _, rfl⟩
def planNeed (x : PlanV) : Nat := x.column.size + x.value.size
def PlanWf (x : PlanV) : Prop := x.column.size ≤ 9223372036854775807 ∧ x.value.size ≤ 9223372036854775807
set_option maxHeartbeats 2000000 in
theorem szPlan_q (x : PlanV) (v : Value) (left : Int) (w : World) (h0 : 0 ≤ left) (h1 : left ≤ 1048576) (hw : PlanWf x) (h : PlanAt w v x) :
    Calls Try.prog 20 #[v, .int .i64 left] w (SzPost (planNeed x) left w) := by
  obtain ⟨cs, rfl, rfl⟩ := h
  obtain ⟨d0, d1, d2⟩ := x
  obtain ⟨q1, q2⟩ := hw
  simp only [planNeed] at *
  by_cases k1 : left < d1.size
  · skip
    have F := Lib.hid (show left < ((d1.size + d2.size : Nat) : Int) from by omega)
    (try clear hr)
    go_enter Try.func20, Try.ntmps20
    go_wp2_with fail
    go_ret
    exact ⟨-1, .inr ⟨F.out, rfl⟩, rfl, ((Below.refl _ _).alloc (Nat.le_refl _) _)⟩
  by_cases k2 : left - d1.size < d2.size
  · skip
    have F := Lib.hid (show left < ((d1.size + d2.size : Nat) : Int) from by omega)
    (try clear hr)
    go_enter Try.func20, Try.ntmps20
    go_wp2_with fail
    go_ret
    exact ⟨-1, .inr ⟨F.out, rfl⟩, rfl, ((Below.refl _ _).alloc (Nat.le_refl _) _)⟩
  have F := Lib.hid (show (((d1.size + d2.size : Nat) : Int) ≤ left ∧ left - d1.size - d2.size = left - ((d1.size + d2.size : Nat) : Int)) from by omega)
  go_enter Try.func20, Try.ntmps20
  go_wp2_with fail
  go_ret
  exact ⟨_, .inl F.out, rfl, ((Below.refl _ _).alloc (Nat.le_refl _) _)⟩
set_option maxHeartbeats 2000000 in
theorem toPlan_new (x : PlanV) (v : Value) (w : World) (hn : planNeed x ≤ 1048576) (h : PlanAt w v x) :
    Calls Try.prog 22 #[v] w (NewPost planE x w) := by
  obtain ⟨cs, rfl, rfl⟩ := h
  obtain ⟨d0, d1, d2⟩ := x
  simp only [planNeed] at hn
  clear hn
  go_enter Try.func22, Try.ntmps22
  go_wp2_with fail
  exact bodyPost_ret (v := .agg #[.int .i64 d0, .string d1, .string d2]) (by simp [results, Try.results22, go_sem]) rfl ⟨[.int .i64 d0, .string d1, .string d2], rfl, rfl, (((Below.refl _ _).alloc (Nat.le_refl _) _).alloc (by simp) _).alloc (by simp; omega) _⟩
theorem toPlan_q (x : PlanV) (v : Value) (w : World) (hn : planNeed x ≤ 1048576) (h : PlanAt w v x) :
    Calls Try.prog 22 #[v] w fun e w' => ∃ v', e = .returned v' ∧ PlanAt w' v' x ∧ Below w.heap.size w w' :=
  (toPlan_new x v w hn h).mono fun e w' ⟨cs, he, hE, hb⟩ => ⟨_, he, ⟨cs, rfl, planE_good.mono hE (Nat.zero_le _) (Nat.le_refl _)⟩, hb⟩
set_option maxHeartbeats 2000000 in
theorem eqPlan_q (x : PlanV) (v u : Value) (w : World) (hn : planNeed x ≤ 1048576) (h : PlanAt w v x) (h2 : PlanAt w u x) :
    Calls Try.prog 19 #[v, u] w (ValPost (.bool true) w) := by
  obtain ⟨cs, rfl, rfl⟩ := h
  obtain ⟨cs, rfl, rfl⟩ := h2
  obtain ⟨d0, d1, d2⟩ := x
  simp only [planNeed] at hn
  clear hn
  go_enter Try.func19, Try.ntmps19
  go_wp2_with fail
  go_ret
  exact ⟨rfl, (((Below.refl w.heap.size w).alloc (Nat.le_refl _) (.cells #[.int .i64 d0, .string d1, .string d2] 43)).alloc (by simp) (.cells #[.int .i64 d0, .string d1, .string d2] 43))⟩
end Go.Proofs.Ytfaphgpelkkccaa
