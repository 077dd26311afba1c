/- The program's QueryText. -/
import Derived.Test.YtfimopcklknekaaGreatDoorQText
import Derived.Test.YtfimopcklknekaaGreatDoorQTS
import Derived.Deep.DeepCutAuto
import Derived.Deep.CutBlock
namespace Go.Proofs.YtfimopcklknekaaGreatDoor
open Go.RowKit
set_option linter.unusedVariables false

theorem join_commas (y : List ByteArray) (ai : Option Addr) (ci : Nat) (w : World) (hpos : 0 < y.length) (hcap : y.length ≤ ci) (h5 : y.length ≤ 5) (h8 : ∀ x ∈ y, x.size ≤ 8) (hr : RowAt w w.heap.size ai (strCells y)) :
    Calls Tryz.prog 16 #[.slice ai y.length ci, .string ⟨#[44]⟩] w (StrPost (colsN y y.length) w) := by
  have hl := colsN_len h8 y.length
  rw [← join_cols y hpos] at hl ⊢
  obtain ⟨b, off, rfl, hb, hc⟩ := hr.str hpos
  refine (Tryz.strings_Join b off ci y ⟨#[44]⟩ w (fun j x hx => by
      obtain ⟨hj, hjx⟩ := List.getElem?_eq_some_iff.1 hx
      rw [hc j hj, hjx]) hb (by omega) hcap (by show (Lib.join (y.map fun x => x.data.toList) [44]).length ≤ _; omega)).mono ?_
  rintro e w' ⟨he, hb'⟩
  exact .of he hb'
theorem fmt_small (n : Nat) (h : n < 100) (w : World) : Calls Tryz.prog 17 #[.int .i64 (n : Int), .int .i64 10] w fun e w' => (∃ r : ByteArray, r.data.toList = Lib.decDigits n ∧ e = .returned (.string r)) ∧ w = w' := by
  refine (Tryz.strconv_FormatInt_10_small n h w).mono ?_
  rintro e w' ⟨rfl, hw⟩
  exact ⟨⟨_, mk_list _, rfl⟩, hw.symm⟩
theorem dec_small (n : Nat) (h : n < 100) : (Lib.decDigits n).length ≤ 2 := by
  by_cases h1 : n < 10
  · rw [Lib.decDigits_one h1]; simp
  · rw [Lib.decDigits_two h1 h]; simp

set_option maxHeartbeats 8000000 in
set_option maxRecDepth 100000 in
theorem QueryText_impl (q : QueryV) (v : Value) (w : World) (hq : QueryWf q) (h1 : q.cols.length ≤ 1048576) (hv : QAt w v q) :
    Calls Tryz.prog 7 #[v] w (StrPost (queryTextB q) w) := by
  obtain ⟨r, hr⟩ : ∃ r, queryB q = r := ⟨_, rfl⟩
  have HR := Lib.hid hr
  clear hr
  obtain ⟨a1, c1, a2, c2, rfl, hr1, hr2, hcc1, hcc2⟩ := hv
  have HA := Lib.hid (fun W (hb : Below w.heap.size w W) => QAt.of (q := q) hb hr1 hr2 ⟨hcc1, hcc2⟩)
  have H1 := Lib.hid hr1
  have H2 := Lib.hid hr2
  clear hr1 hr2
  have hb0 : Below w.heap.size w (w.alloc (.cells #[.string q.table, .slice a1 q.cols.length c1, .slice a2 q.conds.length c2, .string q.order, .bool q.desc, .int .i64 q.limit] 30)) := (Below.refl _ _).alloc (Nat.le_refl _) _
  have b0 := Blk.new w 30 #[.string q.table, .slice a1 q.cols.length c1, .slice a2 q.conds.length c2, .string q.order, .bool q.desc, .int .i64 q.limit]
  have HOK := Lib.hid (fun W hb => queryOk_impl q r HR.out _ W hq h1 (HA.out W hb))
  unfold qAgg at *
  go_enter Tryz.func7, Tryz.ntmps7
  go_wp2_with fail
  generalize hW : w.alloc (.cells #[.string q.table, .slice a1 q.cols.length c1, .slice a2 q.conds.length c2, .string q.order, .bool q.desc, .int .i64 q.limit] 30) = w0 at *
  clear hW
  refine (HOK.out w0 hb0).mono ?_
  rintro e w1 ⟨rfl, hb1⟩
  have hbw1 := hb0.trans (hb1.mono hb0.size)
  have b1 := b0.below hb1 b0.lt
  clear HOK hb1 b0 hb0 HA
  cases r
  · go_wp2_with fail
    go_ret
    exact ⟨⟨#[]⟩, by unfold queryTextB; rw [HR.out]; rfl, rfl, hbw1⟩
  have HQT := Lib.hid (show queryTextB q = qText q by unfold queryTextB; rw [HR.out]; rfl)
  obtain ⟨f1, f2, f3, f4, f5, f6, f7, f8⟩ := qfacts HR.out
  obtain ⟨f6a, f6b⟩ := f6
  have F3 := Lib.hid f3
  have F5 := Lib.hid f5
  have F8 := Lib.hid f8
  clear f3 f5 f8 HR hq h1
  have C0 := b1.cell 0
  have C1 := b1.cell 1
  have C2 := b1.cell 2
  have c0 : w1.cell? ⟨w.heap.size, 0, none⟩ = some (.string q.table) := C0
  have c1' : w1.cell? ⟨w.heap.size, 1, none⟩ = some (.slice a1 q.cols.length c1) := C1
  have c2' : w1.cell? ⟨w.heap.size, 2, none⟩ = some (.slice a2 q.conds.length c2) := C2
  clear C0 C1 C2
  go_upto_if 14 with fail
  go_cut [3] (fun s3 wc => ∃ t : ByteArray, s3 = .string t ∧ t.size ≤ 100 ∧ Hid (t.data.toList = if q.cols.length = 0 then [42] else colsN q.cols q.cols.length) ∧ Below w1.heap.size w1 wc)
  case first =>
    by_cases hc0 : 0 < q.cols.length
    · have q0 : (0 : Int) < (q.cols.length : Int) := by omega
      go_wp2_with fail
      refine (join_commas q.cols a1 c1 w1 hc0 hcc1 f2 F3.out ((H1.out.below hbw1).more hbw1.size)).mono ?_
      rintro e w2 ⟨t, ht, rfl, hb2⟩
      have HT := Lib.hid ht
      have ts : t.size ≤ 100 := by rw [size_len, ht]; have := colsN_len F3.out q.cols.length; omega
      clear ht
      go_wp2_with fail
      go_meet
      exact ⟨t, rfl, ts, Lib.hid (by rw [HT.out, if_neg (by omega)]), hb2⟩
    · have q0 : ¬ (0 : Int) < (q.cols.length : Int) := by omega
      go_wp2_with fail
      go_meet
      exact ⟨⟨#[42]⟩, rfl, by decide, Lib.hid (by rw [if_pos (by omega)]), Below.refl _ _⟩
  case rest =>
  obtain ⟨t0, rfl, ts0, HT0, hb2⟩ := hcut
  obtain ⟨w2, rfl⟩ : ∃ w2 : World, w2 = wc := ⟨_, rfl⟩
  have hbw2 := hbw1.trans (hb2.mono hbw1.size)
  have b2 := b1.below hb2 b1.lt
  clear c0 c1' c2' b1 hb2
  have c0 : w2.cell? ⟨w.heap.size, 0, none⟩ = some (.string q.table) := b2.cell 0
  have c2' : w2.cell? ⟨w.heap.size, 2, none⟩ = some (.slice a2 q.conds.length c2) := b2.cell 2
  have HH := Lib.hid (show (({ data := #[115, 101, 108, 101, 99, 116, 32] } : ByteArray) ++ t0 ++ { data := #[32, 102, 114, 111, 109, 32] } ++ q.table).data.toList = headT q by
    rw [app_list, app_list, app_list, HT0.out]; unfold headT; simp only [List.append_assoc])
  have hhs : (({ data := #[115, 101, 108, 101, 99, 116, 32] } : ByteArray) ++ t0 ++ { data := #[32, 102, 114, 111, 109, 32] } ++ q.table).size ≤ 200 := by
    rw [ByteArray.size_append, ByteArray.size_append, ByteArray.size_append]
    show 7 + t0.size + 6 + q.table.size ≤ 200
    omega
  go_upto_block 0 with fail
  generalize (({ data := #[115, 101, 108, 101, 99, 116, 32] } : ByteArray) ++ t0 ++ { data := #[32, 102, 114, 111, 109, 32] } ++ q.table) = th at *
  go_cut [4] (fun s4 wc => ∃ t : ByteArray, s4 = .string t ∧ t.size ≤ 1000 ∧ Hid (t.data.toList = headT q ++ condsN q.conds q.conds.length) ∧ Below w2.heap.size w2 wc)
  case first =>
    go_wp2_with fail
    go_loopw [4, 5, 6, 7, 27] (fun s4 _ _ _ i wr => ∃ (k : Nat) (t : ByteArray), k ≤ q.conds.length ∧ i = .int .i64 k ∧ s4 = .string t ∧ t.size ≤ 200 + 100 * k ∧ Hid (t.data.toList = headT q ++ condsN q.conds k) ∧ Below w2.heap.size w2 wr) (fun _ _ _ _ i _ => q.conds.length - (intOf i).toNat)
    case atStart => exact ⟨0, th, by omega, rfl, rfl, by omega, Lib.hid (by rw [HH.out]; simp [condsN]), Below.refl _ _⟩
    case round =>
      obtain ⟨k, t, hk, rfl, rfl, hts, HT, hbr⟩ := hrel
      by_cases hlt : k < q.conds.length
      · obtain ⟨b, off, rfl, hb, hc⟩ := (((H2.out.below hbw2).more hbw2.size).below hbr).cond (by omega)
        obtain ⟨e1, e2, e3⟩ := hc k hlt
        have hfc := F5.out q.conds[k] (List.getElem_mem hlt)
        have HS := Lib.hid (condsN_succ q.conds k)
        have HCT := Lib.hid (show condT q.conds k = wordT k ++ (q.conds[k].1.data.toList ++ (opT q.conds[k].2.1 ++ q.conds[k].2.2.data.toList)) by unfold condT; rw [getD_cond _ k hlt])
        clear hc
        generalize q.conds[k] = y at *
        obtain ⟨col, op, val⟩ := y
        dsimp only at *
        obtain ⟨g1, ⟨g2, g3⟩, g4⟩ := hfc
        have hbs := hbr.size
        have hop : op = 1 ∨ op = 2 ∨ op = 3 ∨ op = 4 := by omega
        have hk3 : k < 3 := by omega
        clear g2 g3
        rcases Nat.eq_zero_or_pos k with hk0 | hk0
        · have hk1 : ((k : Int) == 0) = true := beq_iff_eq.2 (by omega)
          have HWT := Lib.hid (show wordT k = [32, 119, 104, 101, 114, 101, 32] by unfold wordT; rw [if_pos hk0])
          clear hk0
          rcases hop with rfl | rfl | rfl | rfl
          all_goals
            go_wp2_with fail
            go_quiet (fail)
            go_wp2_with fail
            go_roundw
            case rel => exact ⟨k + 1, _, by omega, by go_num, rfl, by simp only [ByteArray.size_append, ByteArray.size_extract]; show t.size + (7 + col.size + 1 + val.size) ≤ _; omega, Lib.hid (by rw [HS.out, HCT.out, HWT.out]; simp only [app_list, HT.out, List.append_assoc]; rfl), below_drewN (hbr.alloc hbs _) _⟩
            case measure => simp [intOf]; omega
        · have hk1 : ((k : Int) == 0) = false := beq_eq_false_iff_ne.2 (by omega)
          have HWT := Lib.hid (show wordT k = [32, 97, 110, 100, 32] by unfold wordT; rw [if_neg (by omega)])
          rcases hop with rfl | rfl | rfl | rfl
          all_goals
            go_wp2_with fail
            go_quiet (fail)
            go_wp2_with fail
            go_roundw
            case rel => exact ⟨k + 1, _, by omega, by go_num, rfl, by simp only [ByteArray.size_append, ByteArray.size_extract]; show t.size + (5 + col.size + 1 + val.size) ≤ _; omega, Lib.hid (by rw [HS.out, HCT.out, HWT.out]; simp only [app_list, HT.out, List.append_assoc]; rfl), below_drewN (hbr.alloc hbs _) _⟩
            case measure => simp [intOf]; omega
      · obtain rfl : k = q.conds.length := by omega
        go_wp2_with fail
        go_meet
        exact ⟨t, rfl, by omega, HT, hbr⟩
  case rest =>
  obtain ⟨t3, rfl, ts3, HT3, hb3⟩ := hcut
  obtain ⟨w3, rfl⟩ : ∃ w3 : World, w3 = wc := ⟨_, rfl⟩
  have hbw3 := hbw2.trans (hb3.mono hbw2.size)
  have b3 := b2.below hb3 b2.lt
  clear c0 c2' b2 hb3
  have c3 : w3.cell? ⟨w.heap.size, 3, none⟩ = some (.string q.order) := b3.cell 3
  have c4 : w3.cell? ⟨w.heap.size, 4, none⟩ = some (.bool q.desc) := b3.cell 4
  have c5 : w3.cell? ⟨w.heap.size, 5, none⟩ = some (.int .i64 q.limit) := b3.cell 5
  have HE := Lib.hid (show qText q = (headT q ++ condsN q.conds q.conds.length) ++ (orderT q ++ (descT q ++ limitT q)) by unfold qText; rw [List.append_assoc])
  have HO0 := Lib.hid (fun h : q.order.size = 0 => show orderT q = [] by unfold orderT; rw [if_pos h])
  have HO1 := Lib.hid (fun h : ¬ q.order.size = 0 => show orderT q = [32, 111, 114, 100, 101, 114, 32, 98, 121, 32] ++ q.order.data.toList by unfold orderT; rw [if_neg h])
  have HD0 := Lib.hid (fun h : q.desc = false => show descT q = [] by unfold descT; rw [h]; rfl)
  have HD1 := Lib.hid (fun h : q.desc = true => show descT q = [32, 100, 101, 115, 99] by unfold descT; rw [h]; rfl)
  have HL0 := Lib.hid (fun h : q.limit = 0 => show limitT q = [] by unfold limitT; rw [if_pos h])
  have HL1 := Lib.hid (fun h : ¬ q.limit = 0 => show limitT q = [32, 108, 105, 109, 105, 116, 32] ++ Lib.decDigits q.limit.toNat by unfold limitT; rw [if_neg h])
  generalize q.order = o at *
  generalize q.desc = d at *
  generalize q.limit = l at *
  obtain ⟨n, rfl⟩ := Int.eq_ofNat_of_zero_le f6a
  obtain ⟨ob, ho1, ho2, HOB⟩ : ∃ ob : Bool, (o.toList == []) = !ob ∧ o.toList.isEmpty = !ob ∧ Hid (ob = !decide (o.size = 0)) := by
    refine ⟨!decide (o.size = 0), ?_, ?_, Lib.hid rfl⟩
    · rw [Bool.not_not, ByteArray.toList_eq, Bool.eq_iff_iff]
      simp only [beq_iff_eq, decide_eq_true_eq]
      rw [size_len, List.length_eq_zero_iff]
    · rw [Bool.not_not, isEmpty_toList, Bool.eq_iff_iff]
      simp only [List.isEmpty_iff, decide_eq_true_eq]
      rw [size_len, List.length_eq_zero_iff]
  go_upto_if 53 with fail
  go_cut [4] (fun s4 wc => ∃ t : ByteArray, s4 = .string t ∧ t.size ≤ 1100 ∧ Hid (t.data.toList = (headT q ++ condsN q.conds q.conds.length) ++ orderT q) ∧ w3 = wc)
  case first =>
    cases ob
    · have HZ := Lib.hid (HO0.out (by have := HOB.out; simpa using this))
      clear HO0 HO1 F8 HOB
      go_wp2_with fail
      go_meet
      exact ⟨t3, rfl, by omega, Lib.hid (by rw [HZ.out, List.append_nil]; exact HT3.out), rfl⟩
    · have HZ := Lib.hid (HO1.out (by have := HOB.out; simpa using this))
      clear HO0 HO1 F8 HOB
      go_wp2_with fail
      go_meet
      exact ⟨_, rfl, by rw [ByteArray.size_append, ByteArray.size_append]; show t3.size + (10 + o.size) ≤ 1100; omega, Lib.hid (by rw [app_list, app_list, HZ.out, HT3.out]), rfl⟩
  case rest =>
  obtain ⟨t4, rfl, ts4, HT4, rfl⟩ := hcut
  clear HT3 HO0 HO1 ho1 ho2 HOB
  go_upto_if 60 with fail
  go_cut [4] (fun s4 wc => ∃ t : ByteArray, s4 = .string t ∧ t.size ≤ 1200 ∧ Hid (t.data.toList = ((headT q ++ condsN q.conds q.conds.length) ++ orderT q) ++ descT q) ∧ w3 = wc)
  case first =>
    cases d
    · have HZ := Lib.hid (HD0.out rfl)
      clear HD0 HD1 F8
      go_wp2_with fail
      go_meet
      exact ⟨t4, rfl, by omega, Lib.hid (by rw [HZ.out, List.append_nil]; exact HT4.out), rfl⟩
    · have HZ := Lib.hid (HD1.out rfl)
      clear HD0 HD1 F8
      go_wp2_with fail
      go_meet
      exact ⟨_, rfl, by rw [ByteArray.size_append]; show t4.size + 5 ≤ 1200; omega, Lib.hid (by rw [app_list, HZ.out, HT4.out]), rfl⟩
  case rest =>
  obtain ⟨t5, rfl, ts5, HT5, rfl⟩ := hcut
  clear HT4 HD0 HD1 F8
  by_cases hl0 : (n : Int) = 0
  · have HZ := Lib.hid (HL0.out hl0)
    have hn0 : n = 0 := by omega
    clear HL0 HL1 hl0
    subst hn0
    go_wp2_with fail
    go_ret
    exact ⟨t5, by rw [HQT.out, HE.out, HZ.out, HT5.out]; simp only [List.append_assoc, List.append_nil], rfl, hbw3⟩
  · have HZ := Lib.hid (HL1.out hl0)
    have hnn : ((n : Int) != 0) = true := by simpa using hl0
    have hnn2 : ((n : Int) == 0) = false := beq_eq_false_iff_ne.2 hl0
    clear HL0 HL1 hl0
    go_wp2_with fail
    refine (fmt_small n (by omega) w3).mono ?_
    rintro e w4 ⟨⟨f, hf, rfl⟩, rfl⟩
    have HF := Lib.hid hf
    have fs : f.size ≤ 2 := by rw [size_len, hf]; exact dec_small n (by omega)
    clear hf
    go_wp2_with fail
    go_ret
    refine ⟨_, ?_, rfl, hbw3⟩
    rw [HQT.out, HE.out, HZ.out, app_list, app_list, HT5.out, HF.out]
    simp only [List.append_assoc]
    rfl
end Go.Proofs.YtfimopcklknekaaGreatDoor
