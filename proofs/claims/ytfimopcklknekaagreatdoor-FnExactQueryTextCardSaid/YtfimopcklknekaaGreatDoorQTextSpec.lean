/- The reference's QueryText. -/
import Derived.Test.YtfimopcklknekaaGreatDoorQText
import Derived.Test.YtfimopcklknekaaGreatDoorDigits
import Derived.Deep.DeepCutAuto
import Derived.Deep.CutBlock
namespace Go.Proofs.YtfimopcklknekaaGreatDoor
open Go.RowKit
set_option linter.unusedVariables false

theorem dec_small' (n : Nat) (h : n < 100) : (Lib.decDigits n).length ≤ 2 := by
  by_cases h1 : n < 10
  · rw [Lib.decDigits_one h1]; simp
  · rw [Lib.decDigits_two h1 h]; simp

set_option maxHeartbeats 8000000 in
set_option maxRecDepth 100000 in
theorem l30Text_any (q : QueryV) (v : Value) (w : World) (hB : queryB q = true) (hv : QAt w v q) :
    Calls Tryz.prog 12 #[v] w (StrPost (qText q) w) := by
  obtain ⟨f1, f2, f3, f4, f5, f6, f7, f8⟩ := qfacts hB
  obtain ⟨f6a, f6b⟩ := f6
  have F3 := Lib.hid f3
  have F5 := Lib.hid f5
  have F8 := Lib.hid f8
  clear f3 f5 f8 hB
  obtain ⟨a1, c1, a2, c2, rfl, hr1, hr2, hcc1, hcc2⟩ := hv
  have H1 := Lib.hid hr1
  have H2 := Lib.hid hr2
  clear hr1 hr2
  have hb0 : Below w.heap.size w (w.alloc (.cells #[.string q.table, .slice a1 q.cols.length c1, .slice a2 q.conds.length c2, .string q.order, .bool q.desc, .int .i64 q.limit] 30)) := (Below.refl _ _).alloc (Nat.le_refl _) _
  have b0 := Blk.new w 30 #[.string q.table, .slice a1 q.cols.length c1, .slice a2 q.conds.length c2, .string q.order, .bool q.desc, .int .i64 q.limit]
  unfold qAgg
  go_enter Tryz.func12, Tryz.ntmps12
  go_upto_region 2 with fail
  generalize hW : w.alloc (.cells #[.string q.table, .slice a1 q.cols.length c1, .slice a2 q.conds.length c2, .string q.order, .bool q.desc, .int .i64 q.limit] 30) = w0 at *
  clear hW
  have k0 : w0.cell? ⟨w.heap.size, 0, none⟩ = some (.string q.table) := b0.cell 0
  have k1 : w0.cell? ⟨w.heap.size, 1, none⟩ = some (.slice a1 q.cols.length c1) := b0.cell 1
  have k2 : w0.cell? ⟨w.heap.size, 2, none⟩ = some (.slice a2 q.conds.length c2) := b0.cell 2
  have k3 : w0.cell? ⟨w.heap.size, 3, none⟩ = some (.string q.order) := b0.cell 3
  have k4 : w0.cell? ⟨w.heap.size, 4, none⟩ = some (.bool q.desc) := b0.cell 4
  have k5 : w0.cell? ⟨w.heap.size, 5, none⟩ = some (.int .i64 q.limit) := b0.cell 5
  go_upto_if 9 with fail
  go_cut [3] (fun s3 wc => ∃ t : ByteArray, s3 = .string t ∧ t.size ≤ 10 ∧ Hid (t.data.toList = [115, 101, 108, 101, 99, 116, 32] ++ (if q.cols.length = 0 then [42] else [])) ∧ w0 = wc)
  case first =>
    by_cases hc0 : q.cols.length = 0
    · have e0 : ((q.cols.length : Int) == 0) = true := beq_iff_eq.2 (by omega)
      have HI := Lib.hid (show (if q.cols.length = 0 then [42] else []) = ([42] : List UInt8) from if_pos hc0)
      clear hc0
      go_wp2_with fail
      go_meet
      exact ⟨_, rfl, by decide, Lib.hid (by rw [HI.out]; decide), rfl⟩
    · have e0 : ((q.cols.length : Int) == 0) = false := beq_eq_false_iff_ne.2 (by omega)
      have HI := Lib.hid (show (if q.cols.length = 0 then [42] else []) = ([] : List UInt8) from if_neg hc0)
      clear hc0
      go_wp2_with fail
      go_meet
      exact ⟨_, rfl, by decide, Lib.hid (by rw [HI.out]; decide), rfl⟩
  case rest =>
  obtain ⟨t0, rfl, ts0, HT0, rfl⟩ := hcut
  go_upto_block 0 with fail
  go_cut [3] (fun s3 wc => ∃ t : ByteArray, s3 = .string t ∧ t.size ≤ 100 ∧ Hid (t.data.toList = t0.data.toList ++ colsN q.cols q.cols.length) ∧ w0 = wc)
  case first =>
    go_wp2_with fail
    go_loop [3, 4] (fun s3 i => ∃ (k : Nat) (t : ByteArray), k ≤ q.cols.length ∧ i = .int .i64 k ∧ s3 = .string t ∧ t.size ≤ 10 + 9 * k ∧ Hid (t.data.toList = t0.data.toList ++ colsN q.cols k)) (fun _ i => q.cols.length - (intOf i).toNat)
    case atStart => exact ⟨0, t0, by omega, rfl, rfl, by omega, Lib.hid (by simp [colsN])⟩
    case round =>
      obtain ⟨k, t, hk, rfl, rfl, hts, HT⟩ := hrel
      by_cases hlt : k < q.cols.length
      · obtain ⟨b, off, rfl, hb, hc⟩ := ((H1.out.below hb0).more hb0.size).str (by omega)
        have e1 := hc k hlt
        have hx8 := F3.out q.cols[k] (List.getElem_mem hlt)
        have HS := Lib.hid (colsN_succ q.cols k)
        have HCT := Lib.hid (show colT q.cols k = (if k = 0 then [] else [44]) ++ q.cols[k].data.toList by unfold colT; rw [getD_col _ k hlt])
        clear hc
        generalize q.cols[k] = y at *
        by_cases hk0 : k = 0
        · have hpos : ¬ (0 : Int) < (k : Int) := by omega
          have HI := Lib.hid (show (if k = 0 then [] else [44]) = ([] : List UInt8) from if_pos hk0)
          clear hk0
          go_wp2_with fail
          go_round
          case rel => exact ⟨k + 1, _, by omega, by go_num, rfl, by rw [ByteArray.size_append]; omega, Lib.hid (by rw [HS.out, HCT.out, app_list, HT.out, HI.out, List.nil_append, List.append_assoc])⟩
          case measure => simp [intOf]; omega
        · have hpos : (0 : Int) < (k : Int) := by omega
          have HI := Lib.hid (show (if k = 0 then [] else [44]) = ([44] : List UInt8) from if_neg hk0)
          clear hk0
          go_wp2_with fail
          go_round
          case rel => exact ⟨k + 1, _, by omega, by go_num, rfl, by rw [ByteArray.size_append, ByteArray.size_append]; show t.size + 1 + y.size ≤ _; omega, Lib.hid (by rw [HS.out, HCT.out, app_list, app_list, HT.out, HI.out]; simp only [List.append_assoc])⟩
          case measure => simp [intOf]; omega
      · obtain rfl : k = q.cols.length := by omega
        go_wp2_with fail
        go_meet
        exact ⟨t, rfl, by omega, HT, rfl⟩
  case rest =>
  obtain ⟨t1, rfl, ts1, HT1, rfl⟩ := hcut
  have HH := Lib.hid (show (t1 ++ (({ data := #[32, 102, 114, 111, 109, 32] } : ByteArray) ++ q.table)).data.toList = headT q by
    rw [app_list, app_list, HT1.out, HT0.out]
    unfold headT
    by_cases h : q.cols.length = 0
    · rw [if_pos h, if_pos h, h]
      simp [colsN]
    · rw [if_neg h, if_neg h]
      simp only [List.append_assoc, List.append_nil])
  have hhs : (t1 ++ (({ data := #[32, 102, 114, 111, 109, 32] } : ByteArray) ++ q.table)).size ≤ 200 := by
    rw [ByteArray.size_append, ByteArray.size_append]
    show t1.size + (6 + q.table.size) ≤ 200
    omega
  go_upto_block 2 with fail
  generalize t1 ++ (({ data := #[32, 102, 114, 111, 109, 32] } : ByteArray) ++ q.table) = th at *
  go_cut [3] (fun s3 wc => ∃ t : ByteArray, s3 = .string t ∧ t.size ≤ 1000 ∧ Hid (t.data.toList = headT q ++ condsN q.conds q.conds.length) ∧ ∃ n, wc = w0.drewN n)
  case first =>
    go_wp2_with fail
    go_loopw [3, 5] (fun s3 i wr => ∃ (k : Nat) (t : ByteArray) (n : Nat), k ≤ q.conds.length ∧ i = .int .i64 k ∧ s3 = .string t ∧ t.size ≤ 200 + 100 * k ∧ Hid (t.data.toList = headT q ++ condsN q.conds k) ∧ wr = w0.drewN n) (fun _ i _ => q.conds.length - (intOf i).toNat)
    case atStart => exact ⟨0, th, 0, by omega, rfl, rfl, by omega, Lib.hid (by rw [HH.out]; simp [condsN]), rfl⟩
    case round =>
      obtain ⟨k, t, n, hk, rfl, rfl, hts, HT, rfl⟩ := hrel
      by_cases hlt : k < q.conds.length
      · obtain ⟨b, off, rfl, hb, hc⟩ := ((H2.out.below hb0).more hb0.size).cond (by omega)
        obtain ⟨e1, e2, e3⟩ := hc k hlt
        have hfc := F5.out q.conds[k] (List.getElem_mem hlt)
        have HS := Lib.hid (condsN_succ q.conds k)
        have HCT := Lib.hid (show condT q.conds k = wordT k ++ (q.conds[k].1.data.toList ++ (opT q.conds[k].2.1 ++ q.conds[k].2.2.data.toList)) by unfold condT; rw [getD_cond _ k hlt])
        clear hc
        generalize q.conds[k] = y at *
        obtain ⟨col, op, val⟩ := y
        dsimp only at *
        obtain ⟨g1, ⟨g2, g3⟩, g4⟩ := hfc
        have hop : op = 1 ∨ op = 2 ∨ op = 3 ∨ op = 4 := by omega
        have hk3 : k < 3 := by omega
        have i1 : (0 : Int) ≤ (k : Int) := by omega
        have i2 : (k : Int) < (q.conds.length : Int) := by omega
        clear g2 g3
        rcases Nat.eq_zero_or_pos k with hk0 | hk0
        · have hk1 : ((k : Int) == 0) = true := beq_iff_eq.2 (by omega)
          have HWT := Lib.hid (show wordT k = [32, 119, 104, 101, 114, 101, 32] by unfold wordT; rw [if_pos hk0])
          clear hk0
          rcases hop with rfl | rfl | rfl | rfl
          all_goals
            go_wp2_with fail
            go_quiet (fail)
            go_wp2_with fail
            go_roundw
            case rel => exact ⟨k + 1, _, _, by omega, by go_num, rfl, by simp only [ByteArray.size_append, ByteArray.size_extract]; show t.size + 7 + (col.size + 1 + val.size) ≤ _; omega, Lib.hid (by rw [HS.out, HCT.out, HWT.out]; simp only [app_list, HT.out, List.append_assoc]; rfl), rfl⟩
            case measure => simp [intOf]; omega
        · have hk1 : ((k : Int) == 0) = false := beq_eq_false_iff_ne.2 (by omega)
          have HWT := Lib.hid (show wordT k = [32, 97, 110, 100, 32] by unfold wordT; rw [if_neg (by omega)])
          rcases hop with rfl | rfl | rfl | rfl
          all_goals
            go_wp2_with fail
            go_quiet (fail)
            go_wp2_with fail
            go_roundw
            case rel => exact ⟨k + 1, _, _, by omega, by go_num, rfl, by simp only [ByteArray.size_append, ByteArray.size_extract]; show t.size + 5 + (col.size + 1 + val.size) ≤ _; omega, Lib.hid (by rw [HS.out, HCT.out, HWT.out]; simp only [app_list, HT.out, List.append_assoc]; rfl), rfl⟩
            case measure => simp [intOf]; omega
      · obtain rfl : k = q.conds.length := by omega
        go_wp2_with fail
        go_meet
        exact ⟨t, rfl, by omega, HT, n, rfl⟩
  case rest =>
  obtain ⟨t3, rfl, ts3, HT3, nn, rfl⟩ := hcut
  have hbw3 : Below w.heap.size w (w0.drewN nn) := below_drewN hb0 nn
  clear k0 k1 k2
  have c3 : (w0.drewN nn).cell? ⟨w.heap.size, 3, none⟩ = some (.string q.order) := k3
  have c4 : (w0.drewN nn).cell? ⟨w.heap.size, 4, none⟩ = some (.bool q.desc) := k4
  have c5 : (w0.drewN nn).cell? ⟨w.heap.size, 5, none⟩ = some (.int .i64 q.limit) := k5
  clear k3 k4 k5 hb0 b0
  generalize w0.drewN nn = w3 at *
  have HE := Lib.hid (show qText q = (headT q ++ condsN q.conds q.conds.length) ++ (orderT q ++ (descT q ++ limitT q)) by unfold qText; rw [List.append_assoc])
  have HO0 := Lib.hid (fun h : q.order.size = 0 => show orderT q ++ descT q = [] by unfold orderT descT; rw [if_pos h, F8.out h]; rfl)
  have HO1 := Lib.hid (fun h : ¬ q.order.size = 0 => show orderT q = [32, 111, 114, 100, 101, 114, 32, 98, 121, 32] ++ q.order.data.toList by unfold orderT; rw [if_neg h])
  have HD0 := Lib.hid (fun h : q.desc = false => show descT q = [] by unfold descT; rw [h]; rfl)
  have HD1 := Lib.hid (fun h : q.desc = true => show descT q = [32, 100, 101, 115, 99] by unfold descT; rw [h]; rfl)
  have HL0 := Lib.hid (fun h : q.limit = 0 => show limitT q = [] by unfold limitT; rw [if_pos h])
  have HL1 := Lib.hid (fun h : ¬ q.limit = 0 => show limitT q = [32, 108, 105, 109, 105, 116, 32] ++ Lib.decDigits q.limit.toNat by unfold limitT; rw [if_neg h])
  generalize q.order = o at *
  generalize q.desc = d at *
  generalize q.limit = l at *
  clear F8
  obtain ⟨n, rfl⟩ := Int.eq_ofNat_of_zero_le f6a
  obtain ⟨ob, ho1, ho2, HOB⟩ : ∃ ob : Bool, (o.toList == []) = !ob ∧ o.toList.isEmpty = !ob ∧ Hid (ob = !decide (o.size = 0)) := by
    refine ⟨!decide (o.size = 0), ?_, ?_, Lib.hid rfl⟩
    · rw [Bool.not_not, ByteArray.toList_eq, Bool.eq_iff_iff]
      simp only [beq_iff_eq, decide_eq_true_eq]
      rw [size_len, List.length_eq_zero_iff]
    · rw [Bool.not_not, isEmpty_toList, Bool.eq_iff_iff]
      simp only [List.isEmpty_iff, decide_eq_true_eq]
      rw [size_len, List.length_eq_zero_iff]
  go_upto_if 80 with fail
  go_cut [3] (fun s3 wc => ∃ t : ByteArray, s3 = .string t ∧ t.size ≤ 1200 ∧ Hid (t.data.toList = (headT q ++ condsN q.conds q.conds.length) ++ (orderT q ++ descT q)) ∧ w3 = wc)
  case first =>
    cases ob
    · have HZ := Lib.hid (HO0.out (by have := HOB.out; simpa using this))
      clear HO0 HO1 HOB
      go_wp2_with fail
      go_meet
      exact ⟨t3, rfl, by omega, Lib.hid (by rw [HZ.out, List.append_nil]; exact HT3.out), rfl⟩
    · have HZ := Lib.hid (HO1.out (by have := HOB.out; simpa using this))
      clear HO0 HO1 HOB
      cases d
      · have HZ2 := Lib.hid (HD0.out rfl)
        clear HD0 HD1
        go_wp2_with fail
        go_meet
        exact ⟨_, rfl, by rw [ByteArray.size_append, ByteArray.size_append]; show t3.size + (10 + o.size) ≤ 1200; omega, Lib.hid (by rw [app_list, app_list, HZ.out, HZ2.out, HT3.out, List.append_nil]), rfl⟩
      · have HZ2 := Lib.hid (HD1.out rfl)
        clear HD0 HD1
        have hts : (t3 ++ (({ data := #[32, 111, 114, 100, 101, 114, 32, 98, 121, 32] } : ByteArray) ++ o)).size ≤ 1150 := by rw [ByteArray.size_append, ByteArray.size_append]; show t3.size + (10 + o.size) ≤ 1150; omega
        go_wp2_with fail
        go_meet
        exact ⟨_, rfl, by rw [ByteArray.size_append]; show (t3 ++ (({ data := #[32, 111, 114, 100, 101, 114, 32, 98, 121, 32] } : ByteArray) ++ o)).size + 5 ≤ 1200; omega, Lib.hid (by rw [app_list, app_list, app_list, HZ.out, HZ2.out, HT3.out]; simp only [List.append_assoc]), rfl⟩
  case rest =>
  obtain ⟨t5, rfl, ts5, HT5, rfl⟩ := hcut
  clear HT3 HO0 HO1 HD0 HD1 ho1 ho2 HOB
  by_cases hl0 : (n : Int) = 0
  · have HZ := Lib.hid (HL0.out hl0)
    have hn0 : n = 0 := by omega
    clear HL0 HL1 hl0
    subst hn0
    go_wp2_with fail
    go_ret
    exact ⟨t5, by rw [HE.out, HZ.out, HT5.out]; simp only [List.append_assoc, List.append_nil], rfl, hbw3⟩
  · have HZ := Lib.hid (HL1.out hl0)
    have hnn : (0 : Int) < (n : Int) := by omega
    clear HL0 HL1 hl0
    go_wp2_with fail
    refine (l30Digits_any n (by omega) w3).mono ?_
    rintro e w4 ⟨f, hf, rfl, hb4⟩
    have HF := Lib.hid hf
    have fs : f.size ≤ 2 := by rw [size_len, hf]; exact dec_small' n (by omega)
    clear hf
    go_wp2_with fail
    go_ret
    refine ⟨_, ?_, rfl, hbw3.trans (hb4.mono hbw3.size)⟩
    rw [HE.out, HZ.out, app_list, app_list, HT5.out, HF.out]
    simp only [List.append_assoc]
    rfl

theorem QueryText_spec (q : QueryV) (v : Value) (w : World) (hq : QueryWf q) (h1 : q.cols.length ≤ 1048576) (hv : QAt w v q) :
    Calls Tryz.prog 5 #[v] w (StrPost (queryTextB q) w) := by
  obtain ⟨r, hr⟩ : ∃ r, queryB q = r := ⟨_, rfl⟩
  have HR := Lib.hid hr
  clear hr
  have HA := Lib.hid (fun W (hb : Below w.heap.size w W) => hv.below hb)
  obtain ⟨s0, a1, n1, c1, a2, n2, c2, s3, b4, i5, rfl⟩ := hv.agg
  clear hv
  have hb0 : Below w.heap.size w (w.alloc (.cells #[.string s0, .slice a1 n1 c1, .slice a2 n2 c2, .string s3, .bool b4, .int .i64 i5] 30)) := (Below.refl _ _).alloc (Nat.le_refl _) _
  have b0 := Blk.new w 30 #[.string s0, .slice a1 n1 c1, .slice a2 n2 c2, .string s3, .bool b4, .int .i64 i5]
  go_enter Tryz.func5, Tryz.ntmps5
  go_wp2_with fail
  generalize hW : w.alloc (.cells #[.string s0, .slice a1 n1 c1, .slice a2 n2 c2, .string s3, .bool b4, .int .i64 i5] 30) = w0 at *
  clear hW
  refine (queryOk_spec q r HR.out _ w0 hq h1 (HA.out w0 hb0)).mono ?_
  rintro e w1 ⟨rfl, hb1⟩
  have hbw1 := hb0.trans (hb1.mono hb0.size)
  have b1 := b0.below hb1 b0.lt
  cases r
  · go_wp2_with fail
    go_ret
    exact ⟨⟨#[]⟩, by unfold queryTextB; rw [HR.out]; rfl, rfl, hbw1⟩
  have HQT := Lib.hid (show queryTextB q = qText q by unfold queryTextB; rw [HR.out]; rfl)
  have k0 : w1.cell? ⟨w.heap.size, 0, none⟩ = some (.string s0) := b1.cell 0
  have k1 : w1.cell? ⟨w.heap.size, 1, none⟩ = some (.slice a1 n1 c1) := b1.cell 1
  have k2 : w1.cell? ⟨w.heap.size, 2, none⟩ = some (.slice a2 n2 c2) := b1.cell 2
  have k3 : w1.cell? ⟨w.heap.size, 3, none⟩ = some (.string s3) := b1.cell 3
  have k4 : w1.cell? ⟨w.heap.size, 4, none⟩ = some (.bool b4) := b1.cell 4
  have k5 : w1.cell? ⟨w.heap.size, 5, none⟩ = some (.int .i64 i5) := b1.cell 5
  go_wp2_with fail
  refine (l30Text_any q _ w1 HR.out (HA.out w1 hbw1)).mono ?_
  rintro e w2 ⟨t, ht, rfl, hb2⟩
  have HT := Lib.hid ht
  clear ht
  go_wp2_with fail
  go_ret
  exact ⟨t, by rw [HQT.out, HT.out], rfl, hbw1.trans (hb2.mono hbw1.size)⟩
end Go.Proofs.YtfimopcklknekaaGreatDoor
