/- The program's NumOf. -/
import Derived.Test.YtbknfkdjhajimaaGreatDoorNumImpl
namespace Go.Proofs.YtbknfkdjhajimaaGreatDoor
open Go.RowKit Go.Shelf
set_option linter.unusedVariables false

/-- A whole number comes back; what was there stands. -/
def IntPost (n : Int) (w : World) (e : Ending) (w' : World) : Prop := ∃ k : Int, k = n ∧ e = .returned (.int .i64 k) ∧ Below w.heap.size w w'

theorem prefix_dot (l : List UInt8) : Lib.hasPrefix l [46] = true ∧ (∃ t, l = 46 :: t ∧ Lib.trimPrefix l [46] = t) ∨ Lib.hasPrefix l [46] = false ∧ fracOf l = [] ∧ Lib.trimPrefix l [46] = l := by
  cases l with
  | nil => right; exact ⟨rfl, rfl, rfl⟩
  | cons c t =>
    by_cases h : c = 46
    · left
      subst h
      have : Lib.hasPrefix (46 :: t) [46] = true := by simp [Lib.hasPrefix]
      refine ⟨this, t, rfl, ?_⟩
      unfold Lib.trimPrefix
      rw [if_pos this]; rfl
    · right
      have : Lib.hasPrefix (c :: t) [46] = false := by
        show ((46 : UInt8) == c && [].isPrefixOf t) = false
        rw [beq_eq_false_iff_ne.2 (Ne.symm h), Bool.false_and]
      refine ⟨this, by show (if c = 46 then _ else _) = _; rw [if_neg h], ?_⟩
      unfold Lib.trimPrefix
      rw [if_neg (by simp [this])]

theorem fracOf_dot (t : List UInt8) : fracOf (46 :: t) = t.takeWhile isDig := by
  show (if (46 : UInt8) = 46 then t.takeWhile isDig else []) = _
  rw [if_pos rfl]

/-- strings.CutPrefix(s, "."). -/
def CutPost (l : List UInt8) (w : World) (e : Ending) (w' : World) : Prop := ∃ (r : ByteArray) (b : Bool), e = .returned (.tuple #[.string r, .bool b]) ∧ (b = true → ∃ t, l = 46 :: t ∧ r.data.toList = t) ∧ (b = false → fracOf l = []) ∧ w = w'
theorem cutPrefix_dot (s : ByteArray) (w : World) : Calls Tryz.prog 158 #[.string s, .string ⟨#[46]⟩] w (CutPost s.data.toList w) := by
  refine (Tryz.strings_CutPrefix s ⟨#[46]⟩ w).mono ?_
  rintro e w' ⟨rfl, hw⟩
  refine ⟨_, _, rfl, ?_, ?_, hw.symm⟩
  · intro hb
    rcases prefix_dot s.data.toList with ⟨h, t, h2, h3⟩ | ⟨h, _⟩
    · exact ⟨t, h2, by rw [mk_list]; exact h3⟩
    · have h' : Lib.hasPrefix s.data.toList [46] = true := hb
      rw [h] at h'; cases h'
  · intro hb
    rcases prefix_dot s.data.toList with ⟨h, _⟩ | ⟨h, h2, _⟩
    · have h' : Lib.hasPrefix s.data.toList [46] = false := hb
      rw [h] at h'; cases h'
    · exact h2
theorem count_minus (s : ByteArray) (w : World) : Calls Tryz.prog 156 #[.string s, .string ⟨#[45]⟩] w fun e w' => e = .returned (.int .i64 ((s.data.toList.count 45 : Nat) : Int)) ∧ w = w' :=
  (Tryz.strings_Count_one s 45 w).mono fun e w' ⟨h1, h2⟩ => ⟨h1, h2.symm⟩

set_option maxHeartbeats 2000000 in
theorem NumOf_any (s : ByteArray) (w : World) (hs : s.size ≤ 9223372036854775000) : Calls Tryz.prog 140 #[.string s] w (IntPost (numOf s.data.toList) w) := by
  have HT := Lib.hid (tw_dw_len isSign s.data.toList)
  have HL := Lib.hid (size_len s)
  go_enter Tryz.func140, Tryz.ntmps140
  go_wp2_with fail
  refine (trimL_sign s w).mono ?_
  rintro e w1 ⟨r, hr, rfl, hb1⟩
  have HR := Lib.hid hr
  clear hr
  have HRL := Lib.hid (size_len r)
  have hle : r.size ≤ s.size := by have := HT.out; have := HL.out; have := HRL.out; rw [HR.out] at this; omega
  have q1 : (0 : Int) ≤ (s.size : Int) - (r.size : Int) := by omega
  have q2 : ((s.size : Int) - (r.size : Int)).toNat = s.size - r.size := by omega
  go_wp2_with fail
  have HE := Lib.hid (show (s.extract 0 (s.size - r.size)).data.toList = s.data.toList.takeWhile isSign by
    rw [extract_list, List.drop_zero]
    have h1 := HT.out; have h2 := HL.out; have h3 := HRL.out
    rw [HR.out] at h3
    rw [show s.size - r.size = (s.data.toList.takeWhile isSign).length by omega]
    conv => lhs; rw [← List.takeWhile_append_dropWhile (p := isSign) (l := s.data.toList)]
    rw [List.take_left'] ; simp)
  generalize s.extract 0 (s.size - r.size) = sg at *
  refine (count_minus sg w1).mono ?_
  rintro e w2 ⟨rfl, rfl⟩
  have HN := Lib.hid (show negB s.data.toList = decide (sg.data.toList.count 45 % 2 = 1) by unfold negB; rw [HE.out])
  have hmb : sg.data.toList.count 45 ≤ 9223372036854775000 := by
    have h0 := List.count_le_length (a := (45 : UInt8)) (l := sg.data.toList)
    have h1 := HT.out; have h2 := HL.out
    rw [HE.out] at h0
    rw [HE.out]
    omega
  generalize sg.data.toList.count 45 = m at *
  clear HE q1 q2
  obtain ⟨b0, hsg, HB⟩ : ∃ b : Bool, (((m : Int) % 2 == 1) = b) ∧ Hid (negB s.data.toList = b) := by
    refine ⟨_, rfl, Lib.hid ?_⟩
    rw [HN.out, Bool.eq_iff_iff]
    simp only [decide_eq_true_eq, beq_iff_eq]
    omega
  clear HN
  go_wp2_with fail
  refine (digitsOf_any r w1 (by omega)).mono ?_
  rintro e w2 ⟨k, hk, rfl, hb2⟩
  have HK := Lib.hid hk
  clear hk
  have hkr : k ≤ r.size := by
    have h1 := tw_dw_len isDig r.data.toList
    have h2 := HRL.out
    have h3 := HK.out
    omega
  go_wp2_with fail
  have HW := Lib.hid (show (r.extract 0 k).data.toList = r.data.toList.takeWhile isDig by
    rw [extract_list, List.drop_zero, HK.out]
    conv => lhs; rw [← List.takeWhile_append_dropWhile (p := isDig) (l := r.data.toList)]
    rw [List.take_left'] ; simp)
  have HWD := Lib.hid (show (r.extract k r.size).data.toList = r.data.toList.dropWhile isDig by
    rw [extract_list, List.take_of_length_le (by have := HRL.out; omega), HK.out]
    conv => lhs; rw [← List.takeWhile_append_dropWhile (p := isDig) (l := r.data.toList)]
    rw [List.drop_left'] ; simp)
  have hwh : (r.extract 0 k).size ≤ 9223372036854775000 := by simp; omega
  have HDG := Lib.hid (show numDigits s.data.toList = (r.extract 0 k).data.toList ++ (fracOf (r.extract k r.size).data.toList ++ six).take 6 by
    unfold numDigits; rw [HW.out, HWD.out, HR.out])
  have hqs : (r.extract k r.size).size ≤ 9223372036854775000 := by simp; omega
  generalize r.extract 0 k = wh at *
  generalize r.extract k r.size = rk at *
  have HD := Lib.hid (numDigits_digs s.data.toList)
  refine (cutPrefix_dot _ _).mono ?_
  rintro e w3 ⟨q, b, rfl, hbt, hbf, rfl⟩
  have tail : ∀ (x : ByteArray) (w3 : World), Hid (x.data.toList = numDigits s.data.toList) → x.size ≤ 9223372036854775806 → Below w.heap.size w w3 →
      Calls Tryz.prog 159 #[.int .i64 0, .string x] w3 (fun e w' => ∃ z : Nat, Hid (z = min (valF 0 (numDigits s.data.toList)) maxNum) ∧ z ≤ 999999999999999999 ∧ e = .returned (.int .i64 (z : Int)) ∧ Below w.heap.size w w') := by
    intro x w3 hx hxs hb3
    refine (scaled_any x 0 w3 (by omega) hxs (by rw [hx.out]; exact HD.out)).mono ?_
    rintro e w4 ⟨z, hz, rfl, hb4⟩
    have hz2 : z = min (valF 0 (numDigits s.data.toList)) maxNum := by
      rw [hz, hx.out]; exact scR_eq (by decide) _ HD.out
    exact ⟨z, Lib.hid hz2, by rw [hz2]; exact Nat.min_le_right _ _, rfl, hb3.trans (hb4.mono (by have := hb3.size; omega))⟩
  have hbw2 : Below w.heap.size w w2 := hb1.trans (hb2.mono (by have := hb1.size; omega))
  clear hle HT HL HRL hkr hmb HK HW HWD HR hb1 hb2
  cases b
  · have HF := Lib.hid (hbf rfl)
    clear hbt hbf
    go_wp2_with fail
    have HX := Lib.hid (show (wh ++ (({ data := #[] } : ByteArray) ++ { data := #[48, 48, 48, 48, 48, 48] }).extract 0 6).data.toList = numDigits s.data.toList by
      rw [HDG.out, HF.out, ByteArray.data_append, Array.toList_append]; rfl)
    have hxs : (wh ++ (({ data := #[] } : ByteArray) ++ { data := #[48, 48, 48, 48, 48, 48] }).extract 0 6).size ≤ 9223372036854775806 := by
      rw [ByteArray.size_append]; simp; omega
    generalize wh ++ (({ data := #[] } : ByteArray) ++ { data := #[48, 48, 48, 48, 48, 48] }).extract 0 6 = x at *
    refine (tail x w2 HX hxs hbw2).mono ?_
    rintro e w4 ⟨z, hz, hzb, rfl, hb4⟩
    clear tail
    cases b0
    · go_wp2_with fail
      go_ret
      exact ⟨_, by unfold numOf; rw [HB.out, if_neg (by simp), hz.out], rfl, hb4⟩
    · go_wp2_with fail
      go_ret
      exact ⟨_, by unfold numOf; rw [HB.out, if_pos rfl, hz.out], rfl, hb4⟩
  · obtain ⟨t, ht, hq⟩ := hbt rfl
    have HF := Lib.hid (show fracOf rk.data.toList = q.data.toList.takeWhile isDig by rw [ht, hq]; exact fracOf_dot t)
    have hqs2 : q.size ≤ 9223372036854775000 := by
      have h1 := size_len q; have h2 := size_len rk
      rw [ht, List.length_cons] at h2
      rw [hq] at h1
      omega
    clear hbt hbf ht hq hqs
    go_wp2_with fail
    refine (digitsOf_any q w2 (by omega)).mono ?_
    rintro e w3 ⟨k2, hk2, rfl, hb3⟩
    have HK2 := Lib.hid hk2
    have hkq : k2 ≤ q.size := by
      have h1 := tw_dw_len isDig q.data.toList
      have h2 := size_len q
      omega
    clear hk2
    have HQ := Lib.hid (show (q.extract 0 k2).data.toList = q.data.toList.takeWhile isDig by
      rw [extract_list, List.drop_zero, HK2.out]
      conv => lhs; rw [← List.takeWhile_append_dropWhile (p := isDig) (l := q.data.toList)]
      rw [List.take_left'] ; simp)
    have hq6 : (q.extract 0 k2).size + 6 ≤ 9223372036854775806 := by simp; omega
    have hq7 : 6 ≤ (q.extract 0 k2).size + 6 := by omega
    go_wp2_with fail
    have HX := Lib.hid (show (wh ++ (q.extract 0 k2 ++ ({ data := #[48, 48, 48, 48, 48, 48] } : ByteArray)).extract 0 6).data.toList = numDigits s.data.toList by
      rw [HDG.out, HF.out, ByteArray.data_append, Array.toList_append, extract_list, List.drop_zero, ByteArray.data_append, Array.toList_append, HQ.out]; rfl)
    have hxs : (wh ++ (q.extract 0 k2 ++ ({ data := #[48, 48, 48, 48, 48, 48] } : ByteArray)).extract 0 6).size ≤ 9223372036854775806 := by
      rw [ByteArray.size_append, ByteArray.size_extract]; omega
    generalize wh ++ (q.extract 0 k2 ++ ({ data := #[48, 48, 48, 48, 48, 48] } : ByteArray)).extract 0 6 = x at *
    refine (tail x w3 HX hxs (hbw2.trans (hb3.mono (by have := hbw2.size; omega)))).mono ?_
    rintro e w4 ⟨z, hz, hzb, rfl, hb4⟩
    clear tail
    cases b0
    · go_wp2_with fail
      go_ret
      exact ⟨_, by unfold numOf; rw [HB.out, if_neg (by simp), hz.out], rfl, hb4⟩
    · go_wp2_with fail
      go_ret
      exact ⟨_, by unfold numOf; rw [HB.out, if_pos rfl, hz.out], rfl, hb4⟩
end Go.Proofs.YtbknfkdjhajimaaGreatDoor
