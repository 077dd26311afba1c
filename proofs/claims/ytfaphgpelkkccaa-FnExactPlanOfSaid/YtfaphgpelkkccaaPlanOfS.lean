/- PlanOf: the reference's answer. (Written by wip/gen/planofs.py.) -/
import Derived.Test.YtfaphgpelkkccaaPlanOf
namespace Go.Proofs.Ytfaphgpelkkccaa
open Go.RowKit
set_option linter.unusedVariables false

set_option maxRecDepth 100000 in
set_option maxHeartbeats 16000000 in
theorem l30Plan_any (b : TableV) (q : QueryV) (vb vq : Value) (w : World) (hwb : TableWf b) (hwq : QueryWf q) (hnb : tableNeed b ≤ 1048576) (hnq : queryNeed q ≤ 1048576) (atb : TableAt w vb b) (atq : QAt w vq q) (hne : 0 < b.columns.length) :
    Calls Try.prog 47 #[vb, vq] w (ValPost (planAgg (planOf b q)) w) := by
  have NE := Lib.hid hne
  clear hne
  have lq2 := small_conds hnq
  have lb2 : b.columns.length ≤ 1048576 := by unfold tableNeed at hnb; exact strs_small (by omega)
  have lb3 : b.indexes.length ≤ 1048576 := by unfold tableNeed at hnb; exact strs_small (by omega)
  have AB := Lib.hid (fun W (hb : Below w.heap.size w W) => atb.below tableE_good hb)
  have AQ := Lib.hid (fun W (hb : Below w.heap.size w W) => atq.below hb)
  have HWB := Lib.hid hwb
  have HWQ := Lib.hid hwq
  have HNB := Lib.hid hnb
  have HNQ := Lib.hid hnq
  obtain ⟨cs, rfl, v2, v3, rfl, A2, A3⟩ := atb
  obtain ⟨a2, c2, rfl, hcap2, hr2⟩ := strsE_o A2
  obtain ⟨a3, c3, rfl, hcap3, hr3⟩ := strsE_o A3
  obtain ⟨p1, d1, p2, d2, rfl, hq1, hq2, _⟩ := atq
  simp only [qAgg] at *
  have H2 := Lib.hid hr2
  have H3 := Lib.hid hr3
  have Q2 := Lib.hid hq2
  clear hr2 hr3 A2 A3 hq1 hq2 hwb hwq hnb hnq
  go_enter Try.func47, Try.ntmps47
  go_wp2_with fail
  obtain ⟨W0, hW0⟩ : ∃ W0, W0 = ((w.alloc (.cells #[.string b.name, .string b.global, .slice a2 b.columns.length c2, .slice a3 b.indexes.length c3] 38)).alloc (.cells #[.string q.table, .slice p1 q.cols.length d1, .slice p2 q.conds.length d2, .string q.order, .bool q.desc, .int .i64 q.limit] 30)).alloc (.cells #[.int .i64 0, .string ⟨#[]⟩, .string ⟨#[]⟩] 43) := ⟨_, rfl⟩
  have bA : Blk W0 w.heap.size 38 #[.string b.name, .string b.global, .slice a2 b.columns.length c2, .slice a3 b.indexes.length c3] := by rw [hW0]; exact ((Blk.new _ _ _).alloc _).alloc _
  have bB : Blk W0 (w.heap.size + 1) 30 #[.string q.table, .slice p1 q.cols.length d1, .slice p2 q.conds.length d2, .string q.order, .bool q.desc, .int .i64 q.limit] := by rw [hW0]; exact (by simpa using Blk.new (w.alloc (.cells #[.string b.name, .string b.global, .slice a2 b.columns.length c2, .slice a3 b.indexes.length c3] 38)) 30 #[.string q.table, .slice p1 q.cols.length d1, .slice p2 q.conds.length d2, .string q.order, .bool q.desc, .int .i64 q.limit] : Blk _ (w.heap.size + 1) _ _).alloc _
  have bC : Blk W0 (w.heap.size + 1 + 1) 43 #[.int .i64 0, .string ⟨#[]⟩, .string ⟨#[]⟩] := by rw [hW0]; simpa using Blk.new ((w.alloc (.cells #[.string b.name, .string b.global, .slice a2 b.columns.length c2, .slice a3 b.indexes.length c3] 38)).alloc (.cells #[.string q.table, .slice p1 q.cols.length d1, .slice p2 q.conds.length d2, .string q.order, .bool q.desc, .int .i64 q.limit] 30)) 43 #[.int .i64 0, .string ⟨#[]⟩, .string ⟨#[]⟩]
  have hbW : Below w.heap.size w W0 := by rw [hW0]; exact (((Below.refl _ _).alloc (Nat.le_refl _) _).alloc (by simp) _).alloc (by simp; omega) _
  have z : w.heap.size + 3 ≤ W0.heap.size := by rw [hW0]; simp
  rw [← hW0]
  clear hW0
  go_loopw [5] (fun i wr => ∃ kk : Int, (1 ≤ kk ∧ kk ≤ 3) ∧ i = .int .i64 kk ∧ Hid (2 ≤ kk → q.conds.find? (keyC b) = none) ∧ Hid (3 ≤ kk → q.conds.find? (idxC b) = none) ∧ Blk wr w.heap.size 38 #[.string b.name, .string b.global, .slice a2 b.columns.length c2, .slice a3 b.indexes.length c3] ∧ Blk wr (w.heap.size + 1) 30 #[.string q.table, .slice p1 q.cols.length d1, .slice p2 q.conds.length d2, .string q.order, .bool q.desc, .int .i64 q.limit] ∧ Blk wr (w.heap.size + 1 + 1) 43 #[.int .i64 0, .string ⟨#[]⟩, .string ⟨#[]⟩] ∧ Below w.heap.size w wr ∧ w.heap.size + 3 ≤ wr.heap.size) (fun i _ => 3 - (intOf i).toNat)
  case atStart => exact ⟨1, by omega, rfl, Lib.hid (fun h => absurd h (by decide)), Lib.hid (fun h => absurd h (by decide)), bA, bB, bC, hbW, z⟩
  case round =>
    clear bA bB bC hbW z
    obtain ⟨kk, hkk, rfl, hn1, hn2, bA, bB, bC, hbW, z⟩ := hrel
    obtain ⟨x0, x1, x2, x3⟩ := bA.c4
    obtain ⟨y0, y1, y2, y3, y4, y5⟩ := bB.c6
    obtain ⟨u0, u1, u2⟩ := bC.c3
    obtain ⟨f0, f1, f2⟩ := bC.f3
    obtain rfl | rfl | rfl : kk = 1 ∨ kk = 2 ∨ kk = 3 := by omega
    · clear hn1 hn2 hkk
      go_wp2_with fail
      obtain ⟨wo, rfl⟩ : ∃ wo : World, wo = wr := ⟨_, rfl⟩
      go_loopw [6] (fun i wr => ∃ k : Nat, k ≤ q.conds.length ∧ i = .int .i64 k ∧ Hid ((q.conds.take k).find? (keyC b) = none) ∧ Blk wr w.heap.size 38 #[.string b.name, .string b.global, .slice a2 b.columns.length c2, .slice a3 b.indexes.length c3] ∧ Blk wr (w.heap.size + 1) 30 #[.string q.table, .slice p1 q.cols.length d1, .slice p2 q.conds.length d2, .string q.order, .bool q.desc, .int .i64 q.limit] ∧ Blk wr (w.heap.size + 1 + 1) 43 #[.int .i64 0, .string ⟨#[]⟩, .string ⟨#[]⟩] ∧ Below w.heap.size w wr ∧ w.heap.size + 3 ≤ wr.heap.size) (fun i _ => q.conds.length - (intOf i).toNat)
      case atStart => exact ⟨0, by omega, rfl, Lib.hid rfl, bA, bB, bC, hbW, z⟩
      case round =>
        clear x0 x1 x2 x3 y0 y1 y2 y3 y4 y5 u0 u1 u2 f0 f1 f2 bA bB bC hbW z
        obtain ⟨k, hk, rfl, hno, bA, bB, bC, hbW, z⟩ := hrel
        obtain ⟨x0, x1, x2, x3⟩ := bA.c4
        obtain ⟨y0, y1, y2, y3, y4, y5⟩ := bB.c6
        obtain ⟨u0, u1, u2⟩ := bC.c3
        obtain ⟨f0, f1, f2⟩ := bC.f3
        by_cases hlt : k < q.conds.length
        · obtain ⟨bb, off, rfl, hb, hc⟩ := (Q2.out.below hbW).cond (by omega)
          obtain ⟨g1, g2, g3⟩ := hc k hlt
          have hst := Lib.hid (find_take_succ q.conds (keyC b) k hlt hno.out)
          have hat := Lib.hid (find_at q.conds (keyC b) k hlt hno.out)
          clear hc
          obtain ⟨⟨col, op, val⟩, hy⟩ : ∃ y, y = q.conds[k] := ⟨_, rfl⟩
          rw [← hy] at g1 g2 g3 hst hat
          clear hy
          have bA2 := bA.alloc (.cells #[.string col, .int .i64 op, .string val] 58)
          have bB2 := bB.alloc (.cells #[.string col, .int .i64 op, .string val] 58)
          have bC2 := bC.alloc (.cells #[.string col, .int .i64 op, .string val] 58)
          have hbW2 := hbW.alloc hbW.size (.cells #[.string col, .int .i64 op, .string val] 58)
          have z2 : w.heap.size + 3 ≤ (wr.alloc (.cells #[.string col, .int .i64 op, .string val] 58)).heap.size := by simp; omega
          have xx2 : ∀ o, (wr.alloc o).cell? ⟨w.heap.size, 2, none⟩ = some (.slice a2 b.columns.length c2) := fun o => (bA.alloc o).cell 2
          have xx3 : ∀ o, (wr.alloc o).cell? ⟨w.heap.size, 3, none⟩ = some (.slice a3 b.indexes.length c3) := fun o => (bA.alloc o).cell 3
          have ux0 : ∀ o, (wr.alloc o).cell? ⟨w.heap.size + 1 + 1, 0, none⟩ = some (.int .i64 0) := fun o => (bC.alloc o).cell 0
          have ux1 : ∀ o, (wr.alloc o).cell? ⟨w.heap.size + 1 + 1, 1, none⟩ = some (.string ⟨#[]⟩) := fun o => (bC.alloc o).cell 1
          have ux2 : ∀ o, (wr.alloc o).cell? ⟨w.heap.size + 1 + 1, 2, none⟩ = some (.string ⟨#[]⟩) := fun o => (bC.alloc o).cell 2
          have fx0 : ∀ o, (wr.alloc o).frozen? ⟨w.heap.size + 1 + 1, 0, none⟩ = false := fun o => (bC.alloc o).frozen 0
          have fx1 : ∀ o, (wr.alloc o).frozen? ⟨w.heap.size + 1 + 1, 1, none⟩ = false := fun o => (bC.alloc o).frozen 1
          have fx2 : ∀ o, (wr.alloc o).frozen? ⟨w.heap.size + 1 + 1, 2, none⟩ = false := fun o => (bC.alloc o).frozen 2
          have HP := Lib.hid (show keyC b (col, op, val) = (decide (op = 1) && (decide (¬ val.size = 0) && decide (col = b.columns.getD 0 ByteArray.empty))) from rfl)
          clear bA bB bC

          obtain ⟨tb, toff, rfl, htb, hg⟩ := H2.out.getD NE.out
          have g0 : ∀ o, (wr.alloc o).cell? ⟨tb, toff, none⟩ = some (.string (b.columns.getD 0 ByteArray.empty)) := fun o => by
            have := hg 0 NE.out
            rw [Nat.add_zero] at this
            rw [← this]
            exact (hbW.alloc hbW.size o).cell (p := ⟨tb, toff, none⟩) htb
          have ne : (0 : Int) < (b.columns.length : Int) := by have := NE.out; omega
          have ne' := NE.out
          clear hg
          obtain ⟨hd, hhd⟩ : ∃ hd, hd = b.columns.getD 0 ByteArray.empty := ⟨_, rfl⟩
          rw [← hhd] at g0 HP
          clear hhd

          by_cases e1 : op = 1
          · subst e1
            by_cases kv : val.size = 0
            · obtain ⟨q8, q8'⟩ := isE val kv
              have N2 := Lib.hid (show (q.conds.take (k + 1)).find? (keyC b) = none by rw [hst.out, HP.out, decide_eq_false (show ¬ ¬ val.size = 0 by simpa using kv)]; simp)
              clear kv
              go_wp2_with fail
              go_roundw
              case rel => exact ⟨k + 1, by omega, by go_num, N2, bA2, bB2, bC2, hbW2, z2⟩
              case measure => simp [intOf]; omega
            · have q8 := isN val kv
              have HQ := Lib.hid (show keyC b (col, 1, val) = decide (col = hd) by rw [HP.out, decide_eq_true rfl, decide_eq_true kv]; rfl)
              clear kv
              by_cases kc : col = hd
              · have t4 : (col.toList == hd.toList) = true := by rw [toList_beq]; exact decide_eq_true kc
                have RES := Lib.hid (show planAgg (planOf b q) = .agg #[.int .i64 1, .string col, .string val] by
                  unfold planOf
                  rw [hat.out (by rw [HQ.out]; exact decide_eq_true kc)]; rfl)
                clear kc
                go_wp2_with fail
                go_quiet (fail)
                go_wp2_with fail
                refine bodyPost_ret (v := .agg #[.int .i64 1, .string col, .string val]) (by simp [results, Try.results47, go_sem, ux0, ux1, ux2]) rfl ⟨by rw [RES.out], ?_⟩
                exact (((below_drewN hbW2 _).setCell (p := ⟨w.heap.size + 1 + 1, 0, none⟩) (by simp; omega) _).setCell (p := ⟨w.heap.size + 1 + 1, 1, none⟩) (by simp; omega) _).setCell (p := ⟨w.heap.size + 1 + 1, 2, none⟩) (by simp; omega) _
              · have t4 : (col.toList == hd.toList) = false := by rw [toList_beq]; exact decide_eq_false kc
                have N2 := Lib.hid (show (q.conds.take (k + 1)).find? (keyC b) = none by rw [hst.out, HQ.out, decide_eq_false kc]; rfl)
                clear kc
                go_wp2_with fail
                go_quiet (fail)
                go_wp2_with fail
                go_roundw
                case rel => exact ⟨k + 1, by omega, by go_num, N2, bA2.drewN _, bB2.drewN _, bC2.drewN _, below_drewN hbW2 _, z2⟩
                case measure => simp [intOf]; omega
          · have t1 : (op == 1) = false := beq_eq_false_iff_ne.2 e1
            have N2 := Lib.hid (show (q.conds.take (k + 1)).find? (keyC b) = none by rw [hst.out, HP.out, decide_eq_false e1]; simp)
            have t1' : (op != 1) = true := by simpa using e1
            have t1'' : decide (op = 1) = false := decide_eq_false e1
            go_wp2_with fail
            go_roundw
            case rel => exact ⟨k + 1, by omega, by go_num, N2, bA2, bB2, bC2, hbW2, z2⟩
            case measure => simp [intOf]; omega
        · have NO1 := Lib.hid (show q.conds.find? (keyC b) = none by have := hno.out; rwa [List.take_of_length_le (by omega)] at this)
          clear hno
          go_wp2_with fail
          go_roundw
          case rel => exact ⟨2, by omega, rfl, Lib.hid (fun _ => NO1.out), Lib.hid (fun h => absurd h (by decide)), bA, bB, bC, hbW, z⟩
          case measure => decide
    · have NO1 := Lib.hid (hn1.out (by decide))
      clear hn1 hn2 hkk
      go_wp2_with fail
      obtain ⟨wo, rfl⟩ : ∃ wo : World, wo = wr := ⟨_, rfl⟩
      go_loopw [6] (fun i wr => ∃ k : Nat, k ≤ q.conds.length ∧ i = .int .i64 k ∧ Hid ((q.conds.take k).find? (idxC b) = none) ∧ Blk wr w.heap.size 38 #[.string b.name, .string b.global, .slice a2 b.columns.length c2, .slice a3 b.indexes.length c3] ∧ Blk wr (w.heap.size + 1) 30 #[.string q.table, .slice p1 q.cols.length d1, .slice p2 q.conds.length d2, .string q.order, .bool q.desc, .int .i64 q.limit] ∧ Blk wr (w.heap.size + 1 + 1) 43 #[.int .i64 0, .string ⟨#[]⟩, .string ⟨#[]⟩] ∧ Below w.heap.size w wr ∧ w.heap.size + 3 ≤ wr.heap.size) (fun i _ => q.conds.length - (intOf i).toNat)
      case atStart => exact ⟨0, by omega, rfl, Lib.hid rfl, bA, bB, bC, hbW, z⟩
      case round =>
        clear x0 x1 x2 x3 y0 y1 y2 y3 y4 y5 u0 u1 u2 f0 f1 f2 bA bB bC hbW z
        obtain ⟨k, hk, rfl, hno, bA, bB, bC, hbW, z⟩ := hrel
        obtain ⟨x0, x1, x2, x3⟩ := bA.c4
        obtain ⟨y0, y1, y2, y3, y4, y5⟩ := bB.c6
        obtain ⟨u0, u1, u2⟩ := bC.c3
        obtain ⟨f0, f1, f2⟩ := bC.f3
        by_cases hlt : k < q.conds.length
        · obtain ⟨bb, off, rfl, hb, hc⟩ := (Q2.out.below hbW).cond (by omega)
          obtain ⟨g1, g2, g3⟩ := hc k hlt
          have hst := Lib.hid (find_take_succ q.conds (idxC b) k hlt hno.out)
          have hat := Lib.hid (find_at q.conds (idxC b) k hlt hno.out)
          clear hc
          obtain ⟨⟨col, op, val⟩, hy⟩ : ∃ y, y = q.conds[k] := ⟨_, rfl⟩
          rw [← hy] at g1 g2 g3 hst hat
          clear hy
          have bA2 := bA.alloc (.cells #[.string col, .int .i64 op, .string val] 58)
          have bB2 := bB.alloc (.cells #[.string col, .int .i64 op, .string val] 58)
          have bC2 := bC.alloc (.cells #[.string col, .int .i64 op, .string val] 58)
          have hbW2 := hbW.alloc hbW.size (.cells #[.string col, .int .i64 op, .string val] 58)
          have z2 : w.heap.size + 3 ≤ (wr.alloc (.cells #[.string col, .int .i64 op, .string val] 58)).heap.size := by simp; omega
          have xx2 : ∀ o, (wr.alloc o).cell? ⟨w.heap.size, 2, none⟩ = some (.slice a2 b.columns.length c2) := fun o => (bA.alloc o).cell 2
          have xx3 : ∀ o, (wr.alloc o).cell? ⟨w.heap.size, 3, none⟩ = some (.slice a3 b.indexes.length c3) := fun o => (bA.alloc o).cell 3
          have ux0 : ∀ o, (wr.alloc o).cell? ⟨w.heap.size + 1 + 1, 0, none⟩ = some (.int .i64 0) := fun o => (bC.alloc o).cell 0
          have ux1 : ∀ o, (wr.alloc o).cell? ⟨w.heap.size + 1 + 1, 1, none⟩ = some (.string ⟨#[]⟩) := fun o => (bC.alloc o).cell 1
          have ux2 : ∀ o, (wr.alloc o).cell? ⟨w.heap.size + 1 + 1, 2, none⟩ = some (.string ⟨#[]⟩) := fun o => (bC.alloc o).cell 2
          have fx0 : ∀ o, (wr.alloc o).frozen? ⟨w.heap.size + 1 + 1, 0, none⟩ = false := fun o => (bC.alloc o).frozen 0
          have fx1 : ∀ o, (wr.alloc o).frozen? ⟨w.heap.size + 1 + 1, 1, none⟩ = false := fun o => (bC.alloc o).frozen 1
          have fx2 : ∀ o, (wr.alloc o).frozen? ⟨w.heap.size + 1 + 1, 2, none⟩ = false := fun o => (bC.alloc o).frozen 2
          have HP := Lib.hid (show idxC b (col, op, val) = (decide (op = 1) && (decide (¬ val.size = 0) && Lib.containsS b.indexes col)) from rfl)
          clear bA bB bC

          by_cases e1 : op = 1
          · subst e1
            by_cases kv : val.size = 0
            · obtain ⟨q8, q8'⟩ := isE val kv
              have N2 := Lib.hid (show (q.conds.take (k + 1)).find? (idxC b) = none by rw [hst.out, HP.out, decide_eq_false (show ¬ ¬ val.size = 0 by simpa using kv)]; simp)
              clear kv
              go_wp2_with fail
              go_roundw
              case rel => exact ⟨k + 1, by omega, by go_num, N2, bA2, bB2, bC2, hbW2, z2⟩
              case measure => simp [intOf]; omega
            · have q8 := isN val kv
              have HQ := Lib.hid (show idxC b (col, 1, val) = Lib.containsS b.indexes col by rw [HP.out, decide_eq_true rfl, decide_eq_true kv]; rfl)
              clear kv
              have hrow := Lib.hid (H3.out.below hbW2)
              by_cases kc : 0 ≤ Lib.idxOfS b.indexes col
              · have t4 : decide (0 ≤ Lib.idxOfS b.indexes col) = true := decide_eq_true kc
                have RES := Lib.hid (show planAgg (planOf b q) = .agg #[.int .i64 2, .string col, .string val] by
                  unfold planOf
                  rw [NO1.out, hat.out (by rw [HQ.out]; unfold Lib.containsS; exact t4)]; rfl)
                clear kc
                go_wp2_with fail
                go_quiet ((go_at_call 28; first | exact quiet_add_left (l29Place_any b.indexes col a3 b.indexes.length c3 w.heap.size rfl _ (by omega) hrow.out) | exact quiet_left (l29Place_any b.indexes col a3 b.indexes.length c3 w.heap.size rfl _ (by omega) hrow.out)))
                go_wp2_with fail
                refine bodyPost_ret (v := .agg #[.int .i64 2, .string col, .string val]) (by simp [results, Try.results47, go_sem, ux0, ux1, ux2]) rfl ⟨by rw [RES.out], ?_⟩
                exact (((below_drewN hbW2 _).setCell (p := ⟨w.heap.size + 1 + 1, 0, none⟩) (by simp; omega) _).setCell (p := ⟨w.heap.size + 1 + 1, 1, none⟩) (by simp; omega) _).setCell (p := ⟨w.heap.size + 1 + 1, 2, none⟩) (by simp; omega) _
              · have t4 : decide (0 ≤ Lib.idxOfS b.indexes col) = false := decide_eq_false kc
                have N2 := Lib.hid (show (q.conds.take (k + 1)).find? (idxC b) = none by rw [hst.out, HQ.out]; unfold Lib.containsS; rw [t4]; rfl)
                clear kc
                go_wp2_with fail
                go_quiet ((go_at_call 28; first | exact quiet_add_left (l29Place_any b.indexes col a3 b.indexes.length c3 w.heap.size rfl _ (by omega) hrow.out) | exact quiet_left (l29Place_any b.indexes col a3 b.indexes.length c3 w.heap.size rfl _ (by omega) hrow.out)))
                go_wp2_with fail
                go_roundw
                case rel => exact ⟨k + 1, by omega, by go_num, N2, bA2.drewN _, bB2.drewN _, bC2.drewN _, below_drewN hbW2 _, z2⟩
                case measure => simp [intOf]; omega
          · have t1 : (op == 1) = false := beq_eq_false_iff_ne.2 e1
            have N2 := Lib.hid (show (q.conds.take (k + 1)).find? (idxC b) = none by rw [hst.out, HP.out, decide_eq_false e1]; simp)
            have t1' : (op != 1) = true := by simpa using e1
            have t1'' : decide (op = 1) = false := decide_eq_false e1
            go_wp2_with fail
            go_roundw
            case rel => exact ⟨k + 1, by omega, by go_num, N2, bA2, bB2, bC2, hbW2, z2⟩
            case measure => simp [intOf]; omega
        · have NO2 := Lib.hid (show q.conds.find? (idxC b) = none by have := hno.out; rwa [List.take_of_length_le (by omega)] at this)
          clear hno
          go_wp2_with fail
          go_roundw
          case rel => exact ⟨3, by omega, rfl, Lib.hid (fun _ => NO1.out), Lib.hid (fun _ => NO2.out), bA, bB, bC, hbW, z⟩
          case measure => decide
    · have RES := Lib.hid (show planAgg (planOf b q) = .agg #[.int .i64 3, .string ⟨#[]⟩, .string ⟨#[]⟩] by
        unfold planOf
        rw [hn1.out (by decide), hn2.out (by decide)]; rfl)
      go_wp2_with fail
      refine bodyPost_ret (v := .agg #[.int .i64 3, .string ⟨#[]⟩, .string ⟨#[]⟩]) (by simp [results, Try.results47, go_sem, u0, u1, u2]) rfl ⟨by rw [RES.out], ?_⟩
      exact (((hbW).setCell (p := ⟨w.heap.size + 1 + 1, 0, none⟩) (by simp; omega) _).setCell (p := ⟨w.heap.size + 1 + 1, 1, none⟩) (by simp; omega) _).setCell (p := ⟨w.heap.size + 1 + 1, 2, none⟩) (by simp; omega) _

set_option maxRecDepth 100000 in
set_option maxHeartbeats 16000000 in
theorem planOf_spec (b : TableV) (q : QueryV) (vb vq : Value) (w : World) (hwb : TableWf b) (hwq : QueryWf q) (hnb : tableNeed b ≤ 1048576) (hnq : queryNeed q ≤ 1048576) (atb : TableAt w vb b) (atq : QAt w vq q) :
    Calls Try.prog 17 #[vb, vq] w (ValPost (planRes b q) w) := by
  obtain ⟨rf, hrf⟩ : ∃ rf, fitsB b q = rf := ⟨_, rfl⟩
  have NEC := Lib.hid (fits_cols (b := b) (q := q))
  rw [hrf] at NEC
  have RF := Lib.hid hrf
  clear hrf
  have lq2 := small_conds hnq
  have lb2 : b.columns.length ≤ 1048576 := by unfold tableNeed at hnb; exact strs_small (by omega)
  have lb3 : b.indexes.length ≤ 1048576 := by unfold tableNeed at hnb; exact strs_small (by omega)
  have AB := Lib.hid (fun W (hb : Below w.heap.size w W) => atb.below tableE_good hb)
  have AQ := Lib.hid (fun W (hb : Below w.heap.size w W) => atq.below hb)
  have HWB := Lib.hid hwb
  have HWQ := Lib.hid hwq
  have HNB := Lib.hid hnb
  have HNQ := Lib.hid hnq
  obtain ⟨cs, rfl, v2, v3, rfl, A2, A3⟩ := atb
  obtain ⟨a2, c2, rfl, hcap2, hr2⟩ := strsE_o A2
  obtain ⟨a3, c3, rfl, hcap3, hr3⟩ := strsE_o A3
  obtain ⟨p1, d1, p2, d2, rfl, hq1, hq2, _⟩ := atq
  simp only [qAgg] at *
  have H2 := Lib.hid hr2
  have H3 := Lib.hid hr3
  have Q2 := Lib.hid hq2
  clear hr2 hr3 A2 A3 hq1 hq2 hwb hwq hnb hnq
  go_enter Try.func17, Try.ntmps17
  go_wp2_with fail
  obtain ⟨W0, hW0⟩ : ∃ W0, W0 = ((w.alloc (.cells #[.string b.name, .string b.global, .slice a2 b.columns.length c2, .slice a3 b.indexes.length c3] 38)).alloc (.cells #[.string q.table, .slice p1 q.cols.length d1, .slice p2 q.conds.length d2, .string q.order, .bool q.desc, .int .i64 q.limit] 30)).alloc (.cells #[.int .i64 0, .string ⟨#[]⟩, .string ⟨#[]⟩] 43) := ⟨_, rfl⟩
  have bA : Blk W0 w.heap.size 38 #[.string b.name, .string b.global, .slice a2 b.columns.length c2, .slice a3 b.indexes.length c3] := by rw [hW0]; exact ((Blk.new _ _ _).alloc _).alloc _
  have bB : Blk W0 (w.heap.size + 1) 30 #[.string q.table, .slice p1 q.cols.length d1, .slice p2 q.conds.length d2, .string q.order, .bool q.desc, .int .i64 q.limit] := by rw [hW0]; exact (by simpa using Blk.new (w.alloc (.cells #[.string b.name, .string b.global, .slice a2 b.columns.length c2, .slice a3 b.indexes.length c3] 38)) 30 #[.string q.table, .slice p1 q.cols.length d1, .slice p2 q.conds.length d2, .string q.order, .bool q.desc, .int .i64 q.limit] : Blk _ (w.heap.size + 1) _ _).alloc _
  have bC : Blk W0 (w.heap.size + 1 + 1) 43 #[.int .i64 0, .string ⟨#[]⟩, .string ⟨#[]⟩] := by rw [hW0]; simpa using Blk.new ((w.alloc (.cells #[.string b.name, .string b.global, .slice a2 b.columns.length c2, .slice a3 b.indexes.length c3] 38)).alloc (.cells #[.string q.table, .slice p1 q.cols.length d1, .slice p2 q.conds.length d2, .string q.order, .bool q.desc, .int .i64 q.limit] 30)) 43 #[.int .i64 0, .string ⟨#[]⟩, .string ⟨#[]⟩]
  have hbW : Below w.heap.size w W0 := by rw [hW0]; exact (((Below.refl _ _).alloc (Nat.le_refl _) _).alloc (by simp) _).alloc (by simp; omega) _
  have z : w.heap.size + 3 ≤ W0.heap.size := by rw [hW0]; simp
  rw [← hW0]
  clear hW0
  refine (l30Fits_any b q rf RF.out _ _ W0 HWB.out HWQ.out HNB.out HNQ.out (AB.out _ hbW) (AQ.out _ hbW)).mono ?_
  rintro e w1 ⟨rfl, hc⟩
  replace bA := bA.below hc (by omega)
  replace bB := bB.below hc (by omega)
  replace bC := bC.below hc (by omega)
  replace hbW := hbW.trans (hc.mono hbW.size)
  replace z := Nat.le_trans z hc.size
  clear hc
  obtain ⟨x0, x1, x2, x3⟩ := bA.c4
  obtain ⟨y0, y1, y2, y3, y4, y5⟩ := bB.c6
  obtain ⟨u0, u1, u2⟩ := bC.c3
  obtain ⟨f0, f1, f2⟩ := bC.f3
  cases rf
  · have RES := Lib.hid (show planRes b q = .tuple #[.agg #[.int .i64 0, .string ⟨#[]⟩, .string ⟨#[]⟩], .int .i64 1] by unfold planRes; rw [RF.out]; rfl)
    go_wp2_with fail
    refine bodyPost_ret (v := .tuple #[.agg #[.int .i64 0, .string ⟨#[]⟩, .string ⟨#[]⟩], .int .i64 1]) (by simp [results, Try.results17, go_sem, u0, u1, u2]) rfl ⟨by rw [RES.out], ?_⟩
    exact (((hbW).setCell (p := ⟨w.heap.size + 1 + 1, 0, none⟩) (by simp; omega) _).setCell (p := ⟨w.heap.size + 1 + 1, 1, none⟩) (by simp; omega) _).setCell (p := ⟨w.heap.size + 1 + 1, 2, none⟩) (by simp; omega) _
  have NE := Lib.hid (show 0 < b.columns.length by first | exact NEC.out rfl | exact NEC.out trivial)
  clear NEC
  go_wp2_with fail
  refine (l30Plan_any b q _ _ w1 HWB.out HWQ.out HNB.out HNQ.out (AB.out _ hbW) (AQ.out _ hbW) NE.out).mono ?_
  rintro e w2 ⟨rfl, hc⟩
  have RES := Lib.hid (show planRes b q = .tuple #[planAgg (planOf b q), .int .i64 0] by unfold planRes; rw [RF.out]; rfl)
  replace bC := bC.below hc (by omega)
  replace hbW := hbW.trans (hc.mono hbW.size)
  replace z := Nat.le_trans z hc.size
  clear hc x0 x1 x2 x3 y0 y1 y2 y3 y4 y5 u0 u1 u2 f0 f1 f2
  obtain ⟨u0, u1, u2⟩ := bC.c3
  obtain ⟨f0, f1, f2⟩ := bC.f3
  obtain ⟨⟨pk, pc, pv⟩, hp⟩ : ∃ p, p = planOf b q := ⟨_, rfl⟩
  rw [← hp] at RES ⊢
  clear hp
  unfold planAgg at RES ⊢
  go_wp2_with fail
  refine bodyPost_ret (v := .tuple #[.agg #[.int .i64 pk, .string pc, .string pv], .int .i64 0]) (by simp [results, Try.results17, go_sem, u0, u1, u2]) rfl ⟨by rw [RES.out], ?_⟩
  exact (((hbW).setCell (p := ⟨w.heap.size + 1 + 1, 0, none⟩) (by simp; omega) _).setCell (p := ⟨w.heap.size + 1 + 1, 1, none⟩) (by simp; omega) _).setCell (p := ⟨w.heap.size + 1 + 1, 2, none⟩) (by simp; omega) _
end Go.Proofs.Ytfaphgpelkkccaa
