/- PlanFits: the program's and the reference's answer alike. (Written by wip/gen/plan.py.) -/
import Derived.Test.YtfaphgpelkkccaaPlanFits
namespace Go.Proofs.Ytfaphgpelkkccaa
open Go.RowKit
set_option linter.unusedVariables false

set_option maxRecDepth 100000 in
set_option maxHeartbeats 16000000 in
theorem l30PlanFits_any (b : TableV) (q : QueryV) (p : PlanV) (r : Bool) (hr : planB b q p = r) (vb vq vp : Value) (w : World) (hwb : TableWf b) (hwq : QueryWf q) (hnb : tableNeed b ≤ 1048576) (hnq : queryNeed q ≤ 1048576) (atb : TableAt w vb b) (atq : QAt w vq q) (atp : PlanAt w vp p) (hne : 0 < b.columns.length) :
    Calls Try.prog 48 #[vb, vq, vp] w (ValPost (.bool r) w) := by
  have NE := Lib.hid hne
  have HR := Lib.hid hr
  clear hr hne
  have lq2 := small_conds hnq
  have lb2 : b.columns.length ≤ 1048576 := by unfold tableNeed at hnb; exact strs_small (by omega)
  have lb3 : b.indexes.length ≤ 1048576 := by unfold tableNeed at hnb; exact strs_small (by omega)
  have AB := Lib.hid (fun W (hb : Below w.heap.size w W) => atb.below tableE_good hb)
  have AQ := Lib.hid (fun W (hb : Below w.heap.size w W) => atq.below hb)
  have HWB := Lib.hid hwb
  have HWQ := Lib.hid hwq
  have HNB := Lib.hid hnb
  have HNQ := Lib.hid hnq
  obtain ⟨cs, rfl, v2, v3, rfl, A2, A3⟩ := atb
  obtain ⟨a2, c2, rfl, hcap2, hr2⟩ := strsE_o A2
  obtain ⟨a3, c3, rfl, hcap3, hr3⟩ := strsE_o A3
  obtain ⟨p1, d1, p2, d2, rfl, hq1, hq2, _⟩ := atq
  obtain ⟨cs, rfl, rfl⟩ := atp
  obtain ⟨kind, col, val⟩ := p
  simp only [qAgg] at *
  have H2 := Lib.hid hr2
  have H3 := Lib.hid hr3
  have Q2 := Lib.hid hq2
  clear hr2 hr3 A2 A3 hq1 hq2 hwb hwq hnb hnq
  have HB := Lib.hid (show r = planB b q ⟨kind, col, val⟩ by rw [← HR.out])
  clear HR
  go_enter Try.func48, Try.ntmps48
  obtain ⟨W0, hW0⟩ : ∃ W0, W0 = ((w.alloc (.cells #[.string b.name, .string b.global, .slice a2 b.columns.length c2, .slice a3 b.indexes.length c3] 38)).alloc (.cells #[.string q.table, .slice p1 q.cols.length d1, .slice p2 q.conds.length d2, .string q.order, .bool q.desc, .int .i64 q.limit] 30)).alloc (.cells #[.int .i64 kind, .string col, .string val] 43) := ⟨_, rfl⟩
  have bA : Blk W0 w.heap.size 38 #[.string b.name, .string b.global, .slice a2 b.columns.length c2, .slice a3 b.indexes.length c3] := by rw [hW0]; exact ((Blk.new _ _ _).alloc _).alloc _
  have bB : Blk W0 (w.heap.size + 1) 30 #[.string q.table, .slice p1 q.cols.length d1, .slice p2 q.conds.length d2, .string q.order, .bool q.desc, .int .i64 q.limit] := by rw [hW0]; exact (by simpa using Blk.new (w.alloc (.cells #[.string b.name, .string b.global, .slice a2 b.columns.length c2, .slice a3 b.indexes.length c3] 38)) 30 #[.string q.table, .slice p1 q.cols.length d1, .slice p2 q.conds.length d2, .string q.order, .bool q.desc, .int .i64 q.limit] : Blk _ (w.heap.size + 1) _ _).alloc _
  have bC : Blk W0 (w.heap.size + 1 + 1) 43 #[.int .i64 kind, .string col, .string val] := by rw [hW0]; simpa using Blk.new ((w.alloc (.cells #[.string b.name, .string b.global, .slice a2 b.columns.length c2, .slice a3 b.indexes.length c3] 38)).alloc (.cells #[.string q.table, .slice p1 q.cols.length d1, .slice p2 q.conds.length d2, .string q.order, .bool q.desc, .int .i64 q.limit] 30)) 43 #[.int .i64 kind, .string col, .string val]
  have hbW : Below w.heap.size w W0 := by rw [hW0]; exact (((Below.refl _ _).alloc (Nat.le_refl _) _).alloc (by simp) _).alloc (by simp; omega) _
  have z : w.heap.size + 3 ≤ W0.heap.size := by rw [hW0]; simp
  subst hW0
  by_cases k3 : kind = 3
  · have t3 : (kind == 3) = true := beq_iff_eq.2 k3
    have HP := Lib.hid (show r = (decide (col.size = 0) && decide (val.size = 0)) by rw [HB.out]; unfold planB; rw [if_pos k3])
    clear k3
    by_cases kc : col.size = 0
    · obtain ⟨q7, q7'⟩ := isE col kc
      by_cases kv : val.size = 0
      · obtain ⟨q8, q8'⟩ := isE val kv
        have T := Lib.hid (show r = true by rw [HP.out, decide_eq_true kc, decide_eq_true kv]; rfl)
        clear kc kv
        go_wp2_with fail
        go_ret
        exact ⟨by rw [T.out]; rfl, hbW⟩
      · have q8 := isN val kv
        have T := Lib.hid (show r = false by rw [HP.out, decide_eq_false kv]; simp)
        clear kc kv
        go_wp2_with fail
        go_ret
        exact ⟨by rw [T.out]; rfl, hbW⟩
    · have q7 := isN col kc
      have T := Lib.hid (show r = false by rw [HP.out, decide_eq_false kc]; rfl)
      clear kc
      go_wp2_with fail
      go_ret
      exact ⟨by rw [T.out]; rfl, hbW⟩
  have t3 : (kind == 3) = false := beq_eq_false_iff_ne.2 k3
  by_cases k1 : kind = 1
  · have t1 : (kind == 1) = true := beq_iff_eq.2 k1
    have HP := Lib.hid (show r = (decide (col = b.columns.getD 0 ByteArray.empty) && tailB q col val) by rw [HB.out]; unfold planB; rw [if_neg k3, if_pos k1])
    clear k1 k3
    obtain ⟨tb, toff, rfl, htb, hg⟩ := (H2.out.below hbW).getD NE.out
    have g0 := hg 0 NE.out
    rw [Nat.add_zero] at g0
    have ne : (0 : Int) < (b.columns.length : Int) := by have := NE.out; omega
    have ne' := NE.out
    clear hg
    obtain ⟨hd, hhd⟩ : ∃ hd, hd = b.columns.getD 0 ByteArray.empty := ⟨_, rfl⟩
    rw [← hhd] at g0 HP
    clear hhd
    by_cases kc : col = hd
    · have t4 : (col.toList == hd.toList) = true := by rw [toList_beq]; exact decide_eq_true kc
      have HT := Lib.hid (show r = tailB q col val by rw [HP.out, decide_eq_true kc]; rfl)
      clear kc
      go_wp2_with fail
      go_quiet (fail)
      go_wp2_with fail
      go_loopw [7] (fun i wr => ∃ k : Nat, k ≤ q.conds.length ∧ i = .int .i64 k ∧ Hid ((col, (1 : Int), val) ∉ q.conds.take k ∨ val.size = 0) ∧ Blk wr w.heap.size 38 #[.string b.name, .string b.global, .slice (some ⟨tb, toff, none⟩) b.columns.length c2, .slice a3 b.indexes.length c3] ∧ Blk wr (w.heap.size + 1) 30 #[.string q.table, .slice p1 q.cols.length d1, .slice p2 q.conds.length d2, .string q.order, .bool q.desc, .int .i64 q.limit] ∧ Blk wr (w.heap.size + 1 + 1) 43 #[.int .i64 kind, .string col, .string val] ∧ Below w.heap.size w wr ∧ w.heap.size + 3 ≤ wr.heap.size) (fun i _ => q.conds.length - (intOf i).toNat)
      case atStart => exact ⟨0, by omega, rfl, Lib.hid (by simp), bA.drewN _, bB.drewN _, bC.drewN _, below_drewN hbW _, z⟩
      case round =>
        clear bA bB bC hbW z
        obtain ⟨k, hk, rfl, hno, bA, bB, bC, hbW, z⟩ := hrel
        obtain ⟨x0, x1, x2, x3⟩ := bA.c4
        obtain ⟨y0, y1, y2, y3, y4, y5⟩ := bB.c6
        obtain ⟨u0, u1, u2⟩ := bC.c3
        by_cases hlt : k < q.conds.length
        · obtain ⟨bb, off, rfl, hb, hc⟩ := (Q2.out.below hbW).cond (by omega)
          obtain ⟨g1, g2, g3⟩ := hc k hlt
          have htk := Lib.hid (List.take_succ_eq_append_getElem hlt)
          have hmem := Lib.hid (List.getElem_mem hlt)
          clear hc
          obtain ⟨⟨col', op', val'⟩, hy⟩ : ∃ y, y = q.conds[k] := ⟨_, rfl⟩
          rw [← hy] at g1 g2 g3 htk hmem
          clear hy
          have bA2 := bA.alloc (.cells #[.string col', .int .i64 op', .string val'] 58)
          have bB2 := bB.alloc (.cells #[.string col', .int .i64 op', .string val'] 58)
          have bC2 := bC.alloc (.cells #[.string col', .int .i64 op', .string val'] 58)
          have hbW2 := hbW.alloc hbW.size (.cells #[.string col', .int .i64 op', .string val'] 58)
          have z2 : w.heap.size + 3 ≤ (wr.alloc (.cells #[.string col', .int .i64 op', .string val'] 58)).heap.size := by simp; omega
          have step : ¬ (col', op', val') = (col, (1 : Int), val) ∨ val.size = 0 → (col, (1 : Int), val) ∉ q.conds.take (k + 1) ∨ val.size = 0 := by
            rintro (h | h)
            · rcases hno.out with h2 | h2
              · left
                rw [htk.out, List.mem_append]
                rintro (h3 | h3)
                · exact h2 h3
                · rw [List.mem_singleton] at h3; exact h h3.symm
              · exact .inr h2
            · exact .inr h
          have STEP := Lib.hid step
          have ux1 : ∀ o, (wr.alloc o).cell? ⟨w.heap.size + 1 + 1, 1, none⟩ = some (.string col) := fun o => (bC.alloc o).cell 1
          have ux2 : ∀ o, (wr.alloc o).cell? ⟨w.heap.size + 1 + 1, 2, none⟩ = some (.string val) := fun o => (bC.alloc o).cell 2
          clear step bA bB bC
          by_cases e1 : op' = 1
          · have t1 : (op' == 1) = true := beq_iff_eq.2 e1
            have E1 := Lib.hid e1
            clear e1
            by_cases e2 : col' = col
            · have t2 : (col'.toList == col.toList) = true := by rw [toList_beq]; exact decide_eq_true e2
              have E2 := Lib.hid e2
              clear e2
              by_cases e3 : val' = val
              · have t3 : (val'.toList == val.toList) = true := by rw [toList_beq]; exact decide_eq_true e3
                have E3 := Lib.hid e3
                clear e3
                by_cases kv : val.size = 0
                · obtain ⟨q8, q8'⟩ := isE val kv
                  have N2 := Lib.hid (STEP.out (.inr kv))
                  obtain rfl : val' = val := E3.out
                  clear kv t3 E3
                  go_wp2_with fail
                  go_roundw
                  case rel => exact ⟨k + 1, by omega, by go_num, N2, bA2, bB2, bC2, hbW2, z2⟩
                  case measure => simp [intOf]; omega
                · have q8 := isN val kv
                  have T := Lib.hid (show r = true by
                    rw [HT.out]; unfold tailB
                    rw [decide_eq_true kv, memC_t]
                    · rfl
                    · have := hmem.out; rwa [E1.out, E2.out, E3.out] at this)
                  clear kv
                  go_wp2_with fail
                  go_ret
                  exact ⟨by rw [T.out]; rfl, hbW2⟩
              · have t3 : (val'.toList == val.toList) = false := by rw [toList_beq]; exact decide_eq_false e3
                have N2 := Lib.hid (STEP.out (.inl (by intro h; injection h with _ h; injection h with _ h; exact e3 h)))
                clear e3
                go_wp2_with fail
                go_roundw
                case rel => exact ⟨k + 1, by omega, by go_num, N2, bA2, bB2, bC2, hbW2, z2⟩
                case measure => simp [intOf]; omega
            · have t2 : (col'.toList == col.toList) = false := by rw [toList_beq]; exact decide_eq_false e2
              have N2 := Lib.hid (STEP.out (.inl (by intro h; injection h with h _; exact e2 h)))
              clear e2
              go_wp2_with fail
              go_roundw
              case rel => exact ⟨k + 1, by omega, by go_num, N2, bA2, bB2, bC2, hbW2, z2⟩
              case measure => simp [intOf]; omega
          · have t1 : (op' == 1) = false := beq_eq_false_iff_ne.2 e1
            have N2 := Lib.hid (STEP.out (.inl (by intro h; injection h with _ h; injection h with h _; exact e1 h)))
            clear e1
            go_wp2_with fail
            go_roundw
            case rel => exact ⟨k + 1, by omega, by go_num, N2, bA2, bB2, bC2, hbW2, z2⟩
            case measure => simp [intOf]; omega
        · have T := Lib.hid (show r = false by
            have h := hno.out
            rw [List.take_of_length_le (by omega)] at h
            rw [HT.out]; unfold tailB
            rcases h with h | h
            · rw [memC_f h]; simp
            · rw [decide_eq_false (by simpa using h)]; rfl)
          go_wp2_with fail
          go_ret
          exact ⟨by rw [T.out]; rfl, hbW⟩
    · have t4 : (col.toList == hd.toList) = false := by rw [toList_beq]; exact decide_eq_false kc
      have T := Lib.hid (show r = false by rw [HP.out, decide_eq_false kc]; rfl)
      clear kc
      go_wp2_with fail
      go_quiet (fail)
      go_wp2_with fail
      go_ret
      exact ⟨by rw [T.out]; rfl, below_drewN hbW _⟩
  have t1 : (kind == 1) = false := beq_eq_false_iff_ne.2 k1
  by_cases k2 : kind = 2
  · have t2 : (kind == 2) = true := beq_iff_eq.2 k2
    have HP := Lib.hid (show r = (Lib.containsS b.indexes col && tailB q col val) by rw [HB.out]; unfold planB; rw [if_neg k3, if_neg k1, if_pos k2])
    clear k1 k2 k3
    go_wp2_with fail
    refine (l29Place_any b.indexes col a3 b.indexes.length c3 w.heap.size rfl _ (by omega) (H3.out.below hbW)).mono ?_
    rintro e w4 ⟨rfl, rfl⟩
    by_cases hi : Lib.idxOfS b.indexes col < 0
    · have T := Lib.hid (show r = false by rw [HP.out]; unfold Lib.containsS; rw [decide_eq_false (by omega)]; rfl)
      go_wp2_with fail
      go_ret
      exact ⟨by rw [T.out]; rfl, hbW⟩
    have q6 : decide (Lib.idxOfS b.indexes col < 0) = false := decide_eq_false hi
    have HT := Lib.hid (show r = tailB q col val by rw [HP.out]; unfold Lib.containsS; rw [decide_eq_true (by omega)]; rfl)
    clear hi
    go_wp2_with fail
    go_loopw [7] (fun i wr => ∃ k : Nat, k ≤ q.conds.length ∧ i = .int .i64 k ∧ Hid ((col, (1 : Int), val) ∉ q.conds.take k ∨ val.size = 0) ∧ Blk wr w.heap.size 38 #[.string b.name, .string b.global, .slice a2 b.columns.length c2, .slice a3 b.indexes.length c3] ∧ Blk wr (w.heap.size + 1) 30 #[.string q.table, .slice p1 q.cols.length d1, .slice p2 q.conds.length d2, .string q.order, .bool q.desc, .int .i64 q.limit] ∧ Blk wr (w.heap.size + 1 + 1) 43 #[.int .i64 kind, .string col, .string val] ∧ Below w.heap.size w wr ∧ w.heap.size + 3 ≤ wr.heap.size) (fun i _ => q.conds.length - (intOf i).toNat)
    case atStart => exact ⟨0, by omega, rfl, Lib.hid (by simp), bA, bB, bC, hbW, z⟩
    case round =>
      clear bA bB bC hbW z
      obtain ⟨k, hk, rfl, hno, bA, bB, bC, hbW, z⟩ := hrel
      obtain ⟨x0, x1, x2, x3⟩ := bA.c4
      obtain ⟨y0, y1, y2, y3, y4, y5⟩ := bB.c6
      obtain ⟨u0, u1, u2⟩ := bC.c3
      by_cases hlt : k < q.conds.length
      · obtain ⟨bb, off, rfl, hb, hc⟩ := (Q2.out.below hbW).cond (by omega)
        obtain ⟨g1, g2, g3⟩ := hc k hlt
        have htk := Lib.hid (List.take_succ_eq_append_getElem hlt)
        have hmem := Lib.hid (List.getElem_mem hlt)
        clear hc
        obtain ⟨⟨col', op', val'⟩, hy⟩ : ∃ y, y = q.conds[k] := ⟨_, rfl⟩
        rw [← hy] at g1 g2 g3 htk hmem
        clear hy
        have bA2 := bA.alloc (.cells #[.string col', .int .i64 op', .string val'] 58)
        have bB2 := bB.alloc (.cells #[.string col', .int .i64 op', .string val'] 58)
        have bC2 := bC.alloc (.cells #[.string col', .int .i64 op', .string val'] 58)
        have hbW2 := hbW.alloc hbW.size (.cells #[.string col', .int .i64 op', .string val'] 58)
        have z2 : w.heap.size + 3 ≤ (wr.alloc (.cells #[.string col', .int .i64 op', .string val'] 58)).heap.size := by simp; omega
        have step : ¬ (col', op', val') = (col, (1 : Int), val) ∨ val.size = 0 → (col, (1 : Int), val) ∉ q.conds.take (k + 1) ∨ val.size = 0 := by
          rintro (h | h)
          · rcases hno.out with h2 | h2
            · left
              rw [htk.out, List.mem_append]
              rintro (h3 | h3)
              · exact h2 h3
              · rw [List.mem_singleton] at h3; exact h h3.symm
            · exact .inr h2
          · exact .inr h
        have STEP := Lib.hid step
        have ux1 : ∀ o, (wr.alloc o).cell? ⟨w.heap.size + 1 + 1, 1, none⟩ = some (.string col) := fun o => (bC.alloc o).cell 1
        have ux2 : ∀ o, (wr.alloc o).cell? ⟨w.heap.size + 1 + 1, 2, none⟩ = some (.string val) := fun o => (bC.alloc o).cell 2
        clear step bA bB bC
        by_cases e1 : op' = 1
        · have t1 : (op' == 1) = true := beq_iff_eq.2 e1
          have E1 := Lib.hid e1
          clear e1
          by_cases e2 : col' = col
          · have t2 : (col'.toList == col.toList) = true := by rw [toList_beq]; exact decide_eq_true e2
            have E2 := Lib.hid e2
            clear e2
            by_cases e3 : val' = val
            · have t3 : (val'.toList == val.toList) = true := by rw [toList_beq]; exact decide_eq_true e3
              have E3 := Lib.hid e3
              clear e3
              by_cases kv : val.size = 0
              · obtain ⟨q8, q8'⟩ := isE val kv
                have N2 := Lib.hid (STEP.out (.inr kv))
                obtain rfl : val' = val := E3.out
                clear kv t3 E3
                go_wp2_with fail
                go_roundw
                case rel => exact ⟨k + 1, by omega, by go_num, N2, bA2, bB2, bC2, hbW2, z2⟩
                case measure => simp [intOf]; omega
              · have q8 := isN val kv
                have T := Lib.hid (show r = true by
                  rw [HT.out]; unfold tailB
                  rw [decide_eq_true kv, memC_t]
                  · rfl
                  · have := hmem.out; rwa [E1.out, E2.out, E3.out] at this)
                clear kv
                go_wp2_with fail
                go_ret
                exact ⟨by rw [T.out]; rfl, hbW2⟩
            · have t3 : (val'.toList == val.toList) = false := by rw [toList_beq]; exact decide_eq_false e3
              have N2 := Lib.hid (STEP.out (.inl (by intro h; injection h with _ h; injection h with _ h; exact e3 h)))
              clear e3
              go_wp2_with fail
              go_roundw
              case rel => exact ⟨k + 1, by omega, by go_num, N2, bA2, bB2, bC2, hbW2, z2⟩
              case measure => simp [intOf]; omega
          · have t2 : (col'.toList == col.toList) = false := by rw [toList_beq]; exact decide_eq_false e2
            have N2 := Lib.hid (STEP.out (.inl (by intro h; injection h with h _; exact e2 h)))
            clear e2
            go_wp2_with fail
            go_roundw
            case rel => exact ⟨k + 1, by omega, by go_num, N2, bA2, bB2, bC2, hbW2, z2⟩
            case measure => simp [intOf]; omega
        · have t1 : (op' == 1) = false := beq_eq_false_iff_ne.2 e1
          have N2 := Lib.hid (STEP.out (.inl (by intro h; injection h with _ h; injection h with h _; exact e1 h)))
          clear e1
          go_wp2_with fail
          go_roundw
          case rel => exact ⟨k + 1, by omega, by go_num, N2, bA2, bB2, bC2, hbW2, z2⟩
          case measure => simp [intOf]; omega
      · have T := Lib.hid (show r = false by
          have h := hno.out
          rw [List.take_of_length_le (by omega)] at h
          rw [HT.out]; unfold tailB
          rcases h with h | h
          · rw [memC_f h]; simp
          · rw [decide_eq_false (by simpa using h)]; rfl)
        go_wp2_with fail
        go_ret
        exact ⟨by rw [T.out]; rfl, hbW⟩
  · have t2 : (kind == 2) = false := beq_eq_false_iff_ne.2 k2
    have T := Lib.hid (show r = false by rw [HB.out]; unfold planB; rw [if_neg k3, if_neg k1, if_neg k2])
    clear k1 k2 k3
    go_wp2_with fail
    go_ret
    exact ⟨by rw [T.out]; rfl, hbW⟩
set_option maxHeartbeats 2000000 in
theorem planFits_spec (b : TableV) (q : QueryV) (p : PlanV) (r : Bool) (hr : planFitsB b q p = r) (vb vq vp : Value) (w : World) (hwb : TableWf b) (hwq : QueryWf q) (hnb : tableNeed b ≤ 1048576) (hnq : queryNeed q ≤ 1048576) (atb : TableAt w vb b) (atq : QAt w vq q) (atp : PlanAt w vp p) :
    Calls Try.prog 21 #[vb, vq, vp] w (ValPost (.bool r) w) := by
  obtain ⟨rf, hrf⟩ : ∃ rf, fitsB b q = rf := ⟨_, rfl⟩
  have NEC := Lib.hid (fits_cols (b := b) (q := q))
  unfold planFitsB at hr
  rw [hrf] at hr NEC
  have AB := Lib.hid (fun W (hb : Below w.heap.size w W) => atb.below tableE_good hb)
  have AQ := Lib.hid (fun W (hb : Below w.heap.size w W) => atq.below hb)
  have AP := Lib.hid (fun W (hb : Below w.heap.size w W) => atp.below planE_good hb)
  have HC := Lib.hid (fun (W : World) (hb : Below w.heap.size w W) => l30Fits_any b q rf hrf vb vq W hwb hwq hnb hnq (AB.out W hb) (AQ.out W hb))
  have HD := Lib.hid (fun (r : Bool) (h : planB b q p = r) (hne : 0 < b.columns.length) (W : World) (hb : Below w.heap.size w W) => l30PlanFits_any b q p r h vb vq vp W hwb hwq hnb hnq (AB.out W hb) (AQ.out W hb) (AP.out W hb) hne)
  have HR := Lib.hid hr
  obtain ⟨s0, s1, a2, n2, c2, a3, n3, c3, rfl⟩ := TableAt_agg atb
  obtain ⟨t0, e1, m1, f1, e2, m2, f2, t3, t4, t5, rfl⟩ := atq.agg
  obtain ⟨g0, g1, g2, rfl⟩ := PlanAt_agg atp
  have HB := Lib.hid (show ∀ o1 o2 o3, Below w.heap.size w (((w.alloc o1).alloc o2).alloc o3) from fun o1 o2 o3 => (((Below.refl _ _).alloc (Nat.le_refl _) _).alloc (by simp) _).alloc (by simp; omega) _)
  have BA := Lib.hid (show ∀ o2 o3, Blk (((w.alloc (.cells #[.string s0, .string s1, .slice a2 n2 c2, .slice a3 n3 c3] 38)).alloc o2).alloc o3) w.heap.size 38 #[.string s0, .string s1, .slice a2 n2 c2, .slice a3 n3 c3] from fun o2 o3 => ((Blk.new _ _ _).alloc _).alloc _)
  have BB := Lib.hid (show ∀ o1 o3, Blk (((w.alloc o1).alloc (.cells #[.string t0, .slice e1 m1 f1, .slice e2 m2 f2, .string t3, .bool t4, .int .i64 t5] 30)).alloc o3) (w.heap.size + 1) 30 #[.string t0, .slice e1 m1 f1, .slice e2 m2 f2, .string t3, .bool t4, .int .i64 t5] from fun o1 o3 => (by simpa using Blk.new (w.alloc o1) 30 #[.string t0, .slice e1 m1 f1, .slice e2 m2 f2, .string t3, .bool t4, .int .i64 t5] : Blk _ (w.heap.size + 1) _ _).alloc _)
  have BC := Lib.hid (show ∀ o1 o2, Blk (((w.alloc o1).alloc o2).alloc (.cells #[.int .i64 g0, .string g1, .string g2] 43)) (w.heap.size + 1 + 1) 43 #[.int .i64 g0, .string g1, .string g2] from fun o1 o2 => by simpa using Blk.new ((w.alloc o1).alloc o2) 43 #[.int .i64 g0, .string g1, .string g2])
  clear atb atq atp AB AQ AP hr hrf hwb hwq hnb hnq
  go_enter Try.func21, Try.ntmps21
  go_wp2_with fail
  refine (HC.out _ (HB.out _ _ _)).mono ?_
  rintro e w1 ⟨rfl, hc⟩
  have hbw := (HB.out _ _ _).trans (hc.mono (by simp; omega))
  obtain ⟨x0, x1, x2, x3⟩ := ((BA.out _ _).below hc (by simp; omega)).c4
  obtain ⟨y0, y1, y2, y3, y4, y5⟩ := ((BB.out _ _).below hc (by simp)).c6
  obtain ⟨u0, u1, u2⟩ := ((BC.out _ _).below hc (by simp)).c3
  clear hc
  cases rf
  · go_wp2_with fail
    go_ret
    exact ⟨by rw [← HR.out]; rfl, hbw⟩
  go_wp2_with fail
  refine (HD.out r (by rw [← HR.out]; rfl) (by first | exact NEC.out rfl | exact NEC.out trivial) w1 hbw).mono ?_
  rintro e w2 ⟨rfl, hc⟩
  go_wp2_with fail
  go_ret
  exact ⟨rfl, hbw.trans (hc.mono hbw.size)⟩
end Go.Proofs.Ytfaphgpelkkccaa
