/- The reference's numbers: l01Of. -/
import Derived.Test.YtbknfkdjhajimaaGreatDoorNumTextI
import Derived.Test.YtbknfkdjhajimaaGreatDoorName
import Derived.Deep.DeepCutAuto
import Derived.Deep.CutBlock
namespace Go.Proofs.YtbknfkdjhajimaaGreatDoor
open Go.RowKit Go.Shelf
set_option linter.unusedVariables false

theorem digitB_isDig (c : UInt8) : digitB c.toNat = isDig c := rfl
theorem digR_cons (n : Nat) (c : UInt8) (l : List UInt8) : digR n (c :: l) = if isDig c = true then digR (min (10 * n + dval c) 1000000000000) l else (n, c :: l) := rfl
theorem frR_cons (n u : Nat) (c : UInt8) (l : List UInt8) : frR n u (c :: l) = if isDig c = true then frR (n + dval c * u) (u / 10) l else n := rfl

theorem fracR_dot (n : Nat) (t : List UInt8) : fracR n (46 :: t) = frR n 100000 t := by
  show (if (46 : UInt8) = 46 then frR n 100000 t else n) = _
  rw [if_pos rfl]

theorem l00Min_any (a b : Int) (w : World) : Calls Tryz.prog 162 #[.int .i64 a, .int .i64 b] w fun e w' => e = .returned (.int .i64 (min a b)) ∧ w = w' := by
  generalize hg : min a b = c
  have HG := Lib.hid hg; clear hg
  by_cases h : a < b
  · go_enter Tryz.func162, Tryz.ntmps162
    go_wp2
    go_ret
    exact ⟨ret_int (by have := HG.out; show a = c; omega), rfl⟩
  · go_enter Tryz.func162, Tryz.ntmps162
    go_wp2
    go_ret
    exact ⟨ret_int (by have := HG.out; show b = c; omega), rfl⟩

set_option maxHeartbeats 4000000 in
set_option maxRecDepth 100000 in
theorem l01Of_any (s : ByteArray) (w : World) (hs : s.size ≤ 9223372036854775000) : Calls Tryz.prog 143 #[.string s] w fun e w' => e = .returned (.int .i64 (numOf s.data.toList)) ∧ w = w' := by
  have HL := Lib.hid (size_len s)
  generalize hno : numOf s.data.toList = res
  have HNO := Lib.hid hno; clear hno
  go_enter Tryz.func143, Tryz.ntmps143
  go_upto_block 0 with fail
  go_cut [3, 4] (fun i b wc => ∃ k : Nat, k ≤ s.size ∧ i = .int .i64 k ∧ b = .bool (negB s.data.toList) ∧ Hid (s.data.toList.drop k = s.data.toList.dropWhile isSign) ∧ w = wc)
  case first =>
    go_wp2_with fail
    go_loop [3, 4] (fun i b => ∃ (k : Nat) (c : Bool), k ≤ s.size ∧ i = .int .i64 k ∧ b = .bool c ∧ Hid (sgnR c (s.data.toList.drop k) = (negB s.data.toList, s.data.toList.dropWhile isSign))) (fun i _ => s.size - (intOf i).toNat)
    case atStart => exact ⟨0, false, by omega, rfl, rfl, Lib.hid (by rw [List.drop_zero, sgnR_eq, Bool.false_bne])⟩
    case round =>
      obtain ⟨k, c, hk, rfl, rfl, hg⟩ := hrel
      by_cases hlt : k < s.size
      · have HDr := Lib.hid (drop_at' s k hlt)
        have hx : s[k].toNat < 256 := UInt8.toNat_lt _
        by_cases h43 : s[k] = 43
        · have q1 : ((s[k].toNat : Int) == 43) = true := beq_iff_eq.2 (by rw [h43]; rfl)
          have q2 : ((s[k].toNat : Int) == 45) = false := beq_eq_false_iff_ne.2 (by rw [h43]; decide)
          have HN := Lib.hid (show sgnR c (s.data.toList.drop (k + 1)) = (negB s.data.toList, s.data.toList.dropWhile isSign) by
            have h := hg.out
            rw [HDr.out] at h
            unfold sgnR at h
            rw [h43, if_pos (show isSign 43 = true from rfl), show ((43 : UInt8) == 45) = false from rfl, Bool.bne_false] at h
            exact h)
          clear h43 hg HDr
          go_wp2_with fail
          go_round
          case rel => exact ⟨k + 1, c, by omega, by go_num, by cases c <;> rfl, HN⟩
          case measure => simp [intOf]; omega
        · by_cases h45 : s[k] = 45
          · have q1 : ((s[k].toNat : Int) == 43) = false := beq_eq_false_iff_ne.2 (by rw [h45]; decide)
            have q2 : ((s[k].toNat : Int) == 45) = true := beq_iff_eq.2 (by rw [h45]; rfl)
            have HN := Lib.hid (show sgnR (!c) (s.data.toList.drop (k + 1)) = (negB s.data.toList, s.data.toList.dropWhile isSign) by
              have h := hg.out
              rw [HDr.out] at h
              unfold sgnR at h
              rw [h45, if_pos (show isSign 45 = true from rfl), show ((45 : UInt8) == 45) = true from rfl, Bool.bne_true] at h
              exact h)
            clear h43 h45 hg HDr
            go_wp2_with fail
            go_round
            case rel => exact ⟨k + 1, !c, by omega, by go_num, by cases c <;> rfl, HN⟩
            case measure => simp [intOf]; omega
          · have q1 : ((s[k].toNat : Int) == 43) = false := beq_eq_false_iff_ne.2 (fun e => h43 (UInt8.toNat_inj.1 (by show s[k].toNat = 43; omega)))
            have q2 : ((s[k].toNat : Int) == 45) = false := beq_eq_false_iff_ne.2 (fun e => h45 (UInt8.toNat_inj.1 (by show s[k].toNat = 45; omega)))
            have HN := Lib.hid (show c = negB s.data.toList ∧ s.data.toList.drop k = s.data.toList.dropWhile isSign by
              have h := hg.out
              rw [HDr.out] at h ⊢
              have hns : ¬ isSign s[k] = true := by unfold isSign; simp [h43, h45]
              unfold sgnR at h
              rw [if_neg hns] at h
              exact ⟨congrArg Prod.fst h, congrArg Prod.snd h⟩)
            clear h43 h45 hg HDr
            go_wp2_with fail
            go_meet
            exact ⟨k, hk, rfl, by rw [HN.out.1], Lib.hid HN.out.2, rfl⟩
      · have HN := Lib.hid (show c = negB s.data.toList ∧ s.data.toList.drop k = s.data.toList.dropWhile isSign by
          have h := hg.out
          have hn : s.data.toList.drop k = [] := List.drop_eq_nil_of_le (by rw [← size_len]; omega)
          rw [hn] at h ⊢
          exact ⟨congrArg Prod.fst h, congrArg Prod.snd h⟩)
        clear hg
        go_wp2_with fail
        go_meet
        exact ⟨k, hk, rfl, by rw [HN.out.1], Lib.hid HN.out.2, rfl⟩
  case rest =>
  obtain ⟨k0, hk0, rfl, rfl, HK0, rfl⟩ := hcut
  have HDG := Lib.hid (digR_eq 0 (s.data.toList.dropWhile isSign))
  go_upto_block 2 with fail
  go_cut [3, 5] (fun i n wc => ∃ k z : Nat, k ≤ s.size ∧ i = .int .i64 k ∧ n = .int .i64 z ∧ z ≤ 1000000000000 ∧ Hid ((z, s.data.toList.drop k) = digR 0 (s.data.toList.dropWhile isSign)) ∧ w = wc)
  case first =>
    go_wp2_with fail
    go_loop [3, 5] (fun i n => ∃ k z : Nat, k ≤ s.size ∧ i = .int .i64 k ∧ n = .int .i64 z ∧ z ≤ 1000000000000 ∧ Hid (digR z (s.data.toList.drop k) = digR 0 (s.data.toList.dropWhile isSign))) (fun i _ => s.size - (intOf i).toNat)
    case atStart => exact ⟨k0, 0, hk0, rfl, rfl, by omega, Lib.hid (by rw [HK0.out])⟩
    case round =>
      obtain ⟨k, z, hk, rfl, rfl, hz, hg⟩ := hrel
      by_cases hlt : k < s.size
      · have HDr := Lib.hid (drop_at' s k hlt)
        have hx : s[k].toNat < 256 := UInt8.toNat_lt _
        cases hD : isDig s[k]
        · have HN := Lib.hid (show (z, s.data.toList.drop k) = digR 0 (s.data.toList.dropWhile isSign) by
            have h := hg.out
            rw [HDr.out] at h ⊢
            rw [digR_cons, if_neg (by rw [hD]; simp)] at h
            exact h)
          have HDD := Lib.hid hD
          clear hg HDr hD
          go_wp2_with fail
          refine (l01Digit_any s[k].toNat false HDD.out _).mono ?_
          rintro e w1 ⟨rfl, rfl⟩
          go_wp2_with fail
          go_meet
          exact ⟨k, z, hk, rfl, rfl, hz, HN, rfl⟩
        · have HN := Lib.hid (show digR (min (10 * z + dval s[k]) 1000000000000) (s.data.toList.drop (k + 1)) = digR 0 (s.data.toList.dropWhile isSign) by
            have h := hg.out
            rw [HDr.out] at h
            rw [digR_cons, if_pos hD] at h
            exact h)
          have HDD := Lib.hid hD
          have hdd : 48 ≤ s[k].toNat ∧ s[k].toNat ≤ 57 := by unfold isDig at hD; simpa using hD
          have hdv := Lib.hid (show dval s[k] = s[k].toNat - 48 from rfl)
          obtain ⟨d1, d2⟩ := hdd
          clear hg HDr hD
          go_wp2_with fail
          refine (l01Digit_any s[k].toNat true HDD.out _).mono ?_
          rintro e w1 ⟨rfl, rfl⟩
          go_wp2_with fail
          refine (l00Min_any _ _ _).mono ?_
          rintro e w1 ⟨rfl, rfl⟩
          have HM := Lib.hid (show min (10 * (z : Int) + ((s[k].toNat : Int) - 48)) 1000000000000 = ((min (10 * z + dval s[k]) 1000000000000 : Nat) : Int) by have := hdv.out; omega)
          have hb2 : min (10 * z + dval s[k]) 1000000000000 ≤ 1000000000000 := Nat.min_le_right _ _
          generalize hz2 : min (10 * z + dval s[k]) 1000000000000 = z2 at *
          clear hz2
          rw [HM.out]
          go_wp2_with fail
          go_round
          case rel => exact ⟨k + 1, z2, by omega, by go_num, rfl, hb2, HN⟩
          case measure => simp [intOf]; omega
      · have HN := Lib.hid (show (z, s.data.toList.drop k) = digR 0 (s.data.toList.dropWhile isSign) by
          have h := hg.out
          have hn : s.data.toList.drop k = [] := List.drop_eq_nil_of_le (by rw [← size_len]; omega)
          rw [hn] at h ⊢
          exact h)
        clear hg
        go_wp2_with fail
        go_meet
        exact ⟨k, z, hk, rfl, rfl, hz, HN, rfl⟩
  case rest =>
  obtain ⟨k, z, hk, rfl, rfl, hz, HZ, rfl⟩ := hcut
  have HR0 := Lib.hid (show res = if negB s.data.toList = true then -((min (fracR (min (z * 1000000) 1000000000000000000) (s.data.toList.drop k)) 999999999999999999 : Nat) : Int) else ((min (fracR (min (z * 1000000) 1000000000000000000) (s.data.toList.drop k)) 999999999999999999 : Nat) : Int) by
    rw [← HNO.out]
    unfold numOf
    rw [← refNum_eq]
    unfold refNum
    rw [← HZ.out])
  clear HDG HK0 HNO HZ
  go_wp2_with fail
  refine (l00Min_any _ _ _).mono ?_
  rintro e w1 ⟨rfl, rfl⟩
  have HM := Lib.hid (show min ((z : Int) * 1000000) 1000000000000000000 = ((min (z * 1000000) 1000000000000000000 : Nat) : Int) by omega)
  have hm1 : min (z * 1000000) 1000000000000000000 ≤ 1000000000000000000 := Nat.min_le_right _ _
  generalize min (z * 1000000) 1000000000000000000 = n1 at *
  rw [HM.out]
  clear HM hz
  have tail : ∀ (n2 : Nat), n2 ≤ 9000000000000000000 → Hid (n2 = fracR n1 (s.data.toList.drop k)) → Hid (res = if negB s.data.toList = true then -((min n2 999999999999999999 : Nat) : Int) else ((min n2 999999999999999999 : Nat) : Int)) := by
    intro n2 _ h
    rw [h.out]; exact HR0
  clear HR0
  generalize negB s.data.toList = ng at *
  obtain ⟨dot, HDO⟩ : ∃ d : Bool, Hid (d = decide (k < s.size ∧ s.data.toList.getD k 0 = 46)) := ⟨_, Lib.hid rfl⟩
  go_upto_region 11 with fail
  go_cut [64] (fun d wc => d = .bool dot ∧ w = wc)
  case first =>
    by_cases hlt : k < s.size
    · have hx : s[k].toNat < 256 := UInt8.toNat_lt _
      by_cases h46 : s[k] = 46
      · have q1 : ((s[k].toNat : Int) == 46) = true := beq_iff_eq.2 (by rw [h46]; rfl)
        have HD2 := Lib.hid (show dot = true by rw [HDO.out]; exact decide_eq_true ⟨hlt, by rw [idx_getD s k hlt]; exact h46⟩)
        clear h46
        go_wp2_with fail
        go_meet
        exact ⟨by rw [HD2.out], rfl⟩
      · have q1 : ((s[k].toNat : Int) == 46) = false := beq_eq_false_iff_ne.2 (fun e => h46 (UInt8.toNat_inj.1 (by show s[k].toNat = 46; omega)))
        have HD2 := Lib.hid (show dot = false by rw [HDO.out]; exact decide_eq_false (fun h => h46 (by rw [← idx_getD s k hlt]; exact h.2)))
        clear h46
        go_wp2_with fail
        go_meet
        exact ⟨by rw [HD2.out], rfl⟩
    · have HD2 := Lib.hid (show dot = false by rw [HDO.out]; exact decide_eq_false (fun h => hlt h.1))
      go_wp2_with fail
      go_meet
      exact ⟨by rw [HD2.out], rfl⟩
  case rest =>
  obtain ⟨rfl, rfl⟩ := hcut
  go_upto_if 64 with fail
  go_cut [5] (fun n wc => ∃ n2 : Nat, n2 ≤ 9000000000000000000 ∧ n = .int .i64 n2 ∧ Hid (n2 = fracR n1 (s.data.toList.drop k)) ∧ w = wc)
  case first =>
    cases dot
    · have HF := Lib.hid (show n1 = fracR n1 (s.data.toList.drop k) by
        have hn := of_decide_eq_false HDO.out.symm
        cases hd : s.data.toList.drop k with
        | nil => rfl
        | cons c t =>
          have hlt : k < s.size := by
            rw [size_len]
            have := congrArg List.length hd
            simp only [List.length_drop, List.length_cons] at this
            omega
          have hc : c ≠ 46 := fun e => hn ⟨hlt, by
            have h2 := drop_at _ k (show k < s.data.toList.length by rw [← size_len]; exact hlt)
            rw [hd] at h2
            have := (List.cons.inj h2).1
            rw [← this]; exact e⟩
          show n1 = if c = 46 then frR n1 100000 t else n1
          rw [if_neg hc])
      clear HDO
      go_wp2_with fail
      go_meet
      exact ⟨n1, by omega, rfl, HF, rfl⟩
    · have hd := of_decide_eq_true HDO.out.symm
      obtain ⟨hlt, h46⟩ := hd
      have HF := Lib.hid (show fracR n1 (s.data.toList.drop k) = frR n1 100000 (s.data.toList.drop (k + 1)) by
        rw [drop_at _ k (by rw [← size_len]; exact hlt), h46]
        exact fracR_dot n1 _)
      have hk1 : k + 1 ≤ s.size := by omega
      clear HDO h46
      go_wp2_with fail
      go_loop [3, 5, 6] (fun i n u => ∃ j z y : Nat, j ≤ s.size ∧ i = .int .i64 j ∧ n = .int .i64 z ∧ u = .int .i64 y ∧ Hid (frR z y (s.data.toList.drop j) = fracR n1 (s.data.toList.drop k)) ∧ y ≤ 100000 ∧ z + 10 * y ≤ 2000000000000000000) (fun i _ _ => s.size - (intOf i).toNat)
      case atStart => exact ⟨k + 1, n1, 100000, hk1, by go_num, rfl, rfl, Lib.hid HF.out.symm, by omega, by omega⟩
      case round =>
        obtain ⟨j, z, y, hj, rfl, rfl, rfl, hg, hy, hzy⟩ := hrel
        clear HF hlt hk1
        by_cases hlt : j < s.size
        · have HDr := Lib.hid (drop_at' s j hlt)
          have hx : s[j].toNat < 256 := UInt8.toNat_lt _
          cases hD : isDig s[j]
          · have HN := Lib.hid (show z = fracR n1 (s.data.toList.drop k) by
              have h := hg.out
              rw [HDr.out, frR_cons, if_neg (by rw [hD]; simp)] at h
              exact h)
            have HDD := Lib.hid hD
            clear hg HDr hD
            go_wp2_with fail
            refine (l01Digit_any s[j].toNat false HDD.out _).mono ?_
            rintro e w1 ⟨rfl, rfl⟩
            go_wp2_with fail
            go_meet
            exact ⟨z, by omega, rfl, HN, rfl⟩
          · have HN := Lib.hid (show frR (z + dval s[j] * y) (y / 10) (s.data.toList.drop (j + 1)) = fracR n1 (s.data.toList.drop k) by
              have h := hg.out
              rw [HDr.out, frR_cons, if_pos hD] at h
              exact h)
            have HDD := Lib.hid hD
            have hdd : 48 ≤ s[j].toNat ∧ s[j].toNat ≤ 57 := by unfold isDig at hD; simpa using hD
            obtain ⟨d1, d2⟩ := hdd
            obtain ⟨d, hd, hd9⟩ : ∃ d : Nat, dval s[j] = d ∧ d ≤ 9 := ⟨_, rfl, by unfold dval; omega⟩
            have hdv := Lib.hid (show (s[j].toNat : Int) - 48 = (d : Int) by unfold dval at hd; omega)
            have hp : d * y ≤ 9 * y := Nat.mul_le_mul_right _ hd9
            have HP := Lib.hid (show (d : Int) * (y : Int) = ((d * y : Nat) : Int) by rw [Int.natCast_mul])
            rw [hd] at HN
            generalize d * y = dy at *
            clear hg HDr hD hd
            go_wp2_with fail
            refine (l01Digit_any s[j].toNat true HDD.out _).mono ?_
            rintro e w1 ⟨rfl, rfl⟩
            have h1 := hdv.out
            have h2 := HP.out
            go_wp2_with fail
            go_round
            case rel => exact ⟨j + 1, z + dy, y / 10, by omega, by go_num, by go_num, by go_num, HN, by omega, by omega⟩
            case measure => simp [intOf]; omega
        · have HN := Lib.hid (show z = fracR n1 (s.data.toList.drop k) by
            have h := hg.out
            rw [List.drop_eq_nil_of_le (by rw [← size_len]; omega)] at h
            exact h)
          clear hg
          go_wp2_with fail
          go_meet
          exact ⟨z, by omega, rfl, HN, rfl⟩
  case rest =>
  obtain ⟨n2, hn2, rfl, HF, rfl⟩ := hcut
  have HT := tail n2 hn2 HF
  clear tail HF
  go_wp2_with fail
  refine (l00Min_any _ _ _).mono ?_
  rintro e w1 ⟨rfl, rfl⟩
  have HM := Lib.hid (show min (n2 : Int) 999999999999999999 = ((min n2 999999999999999999 : Nat) : Int) by omega)
  have hm2 : min n2 999999999999999999 ≤ 999999999999999999 := Nat.min_le_right _ _
  generalize min n2 999999999999999999 = n3 at *
  rw [HM.out]
  clear HM hn2
  cases ng
  · go_wp2_with fail
    go_ret
    exact ⟨by rw [HT.out]; rfl, rfl⟩
  · go_wp2_with fail
    go_ret
    exact ⟨by rw [HT.out]; rfl, rfl⟩
end Go.Proofs.YtbknfkdjhajimaaGreatDoor
