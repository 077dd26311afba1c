/- The reference's text of a number: l01Text, l01Canon; its order: l02Before. -/
import Derived.Test.YtbknfkdjhajimaaGreatDoorNumWhole
import Derived.Test.YtbknfkdjhajimaaGreatDoorBefore
namespace Go.Proofs.YtbknfkdjhajimaaGreatDoor
open Go.RowKit Go.Shelf
set_option linter.unusedVariables false

def strOf : Value → ByteArray | .string s => s | _ => ⟨#[]⟩

theorem strip0_snoc (l : List UInt8) (c : UInt8) : strip0 (l ++ [c]) = if c = 48 then strip0 l else l ++ [c] := by
  unfold strip0
  rw [List.reverse_append, List.reverse_singleton, List.singleton_append, List.dropWhile_cons]
  by_cases h : c = 48
  · rw [if_pos (by simp [h]), if_pos h]
  · rw [if_neg (by simp [h]), if_neg h, List.reverse_cons, List.reverse_reverse]
theorem strip0_frac_ne {r : Nat} (h : r < 1000000) (h0 : 0 < r) : strip0 (fracD r) ≠ [] := by
  intro e
  obtain ⟨k, hk⟩ := strip0_spec (fracD r)
  rw [e, List.nil_append] at hk
  have := valF_fracD h
  rw [hk, valF_zeros] at this
  omega
theorem last_split (f : ByteArray) (h : 0 < f.size) : f.data.toList = (f.extract 0 (f.size - 1)).data.toList ++ [f[f.size - 1]] := by
  rw [extract_list, List.drop_zero]
  have hl : f.data.toList.length = f.size := (size_len f).symm
  have h1 : f.size - 1 < f.data.toList.length := by omega
  have h2 := List.take_succ_eq_append_getElem h1
  rw [show f.size - 1 + 1 = f.data.toList.length by omega, List.take_length] at h2
  exact h2

set_option maxHeartbeats 2000000 in
theorem l01TextP_any (m : Nat) (w : World) (hm : m ≤ 999999999999999999) : Calls Tryz.prog 161 #[.int .i64 (m : Int)] w (StrPost (bodyT m) w) := by
  have e1 : ¬ (m : Int) < 0 := by omega
  have e5 : (m : Int) / 1000000 = ((m / 1000000 : Nat) : Int) := by omega
  have e6 : (m : Int) % 1000000 = ((m % 1000000 : Nat) : Int) := by omega
  have hq : m / 1000000 ≤ 999999999999 := by omega
  have HR : m % 1000000 < 1000000 := by omega
  by_cases h0 : m = 0
  · subst h0
    go_enter Tryz.func161, Tryz.ntmps161
    go_wp2_with fail
    refine (l01Whole_any 0 w (by omega)).mono ?_
    rintro e w1 ⟨t, ht, rfl, hb1⟩
    rw [wholeD_zero] at ht
    obtain rfl : t = ⟨#[]⟩ := ba_ext ht
    clear ht
    go_wp2_with fail
    go_ret
    exact ⟨⟨#[48]⟩, rfl, rfl, hb1⟩
  · have HB := Lib.hid (show bodyT m = wholeD (m / 1000000) ++ (if m % 1000000 = 0 then [] else 46 :: strip0 (fracD (m % 1000000))) by unfold bodyT body; rw [if_neg h0])
    have HNE := Lib.hid (show m % 1000000 = 0 → wholeD (m / 1000000) ≠ [] by
      intro h
      rw [wholeD_pos (show m / 1000000 ≠ 0 by omega)]; simp)
    have hwl := wholeD_len_le (n := m / 1000000) (k := 12) (by omega)
    generalize m / 1000000 = q at *
    generalize m % 1000000 = r at *
    clear h0
    go_enter Tryz.func161, Tryz.ntmps161
    go_wp2_with fail
    refine (l01Whole_any q w (by omega)).mono ?_
    rintro e w1 ⟨t, ht, rfl, hb1⟩
    have HT := Lib.hid ht
    have ts : t.size ≤ 1000 := by have h1 := size_len t; rw [ht] at h1; omega
    clear ht hwl
    by_cases hr : r = 0
    · have HB2 := Lib.hid (show bodyT m = wholeD q by rw [HB.out, if_pos hr, List.append_nil])
      clear HB
      subst hr
      have hne : (t.toList == []) = false := by
        rw [ByteArray.toList_eq]
        exact beq_eq_false_iff_ne.2 (by rw [HT.out]; exact HNE.out rfl)
      have hne2 : t.toList.isEmpty = false := by
        rw [ByteArray.toList_eq]
        have := HNE.out rfl
        rw [← HT.out] at this
        cases hh : t.data.toList with
        | nil => exact absurd hh this
        | cons => rfl
      clear HNE
      go_wp2_with fail
      go_ret
      exact ⟨t, by rw [HT.out, HB2.out], rfl, hb1⟩
    · have hrp : 0 < r := by omega
      clear HNE
      have HB2 := Lib.hid (show bodyT m = wholeD q ++ 46 :: strip0 (fracD r) by rw [HB.out, if_neg hr])
      have hrl : (0 : Int) < (r : Int) := by omega
      have HSN := Lib.hid (strip0_frac_ne HR hrp)
      clear hr HB e1 hm hrp
      go_wp2_with fail
      have hwl := l01Whole_any (1000000 + r) w1 (by omega)
      rw [show ((1000000 + r : Nat) : Int) = 1000000 + (r : Int) by omega] at hwl
      refine hwl.mono ?_
      rintro e w2 ⟨f0, hf0, rfl, hb2⟩
      have HF := Lib.hid (show f0.data.toList = 49 :: fracD r by rw [hf0]; exact wholeD_head HR)
      have fs := Lib.hid (show f0.size = 7 by rw [size_len f0, HF.out, List.length_cons, fracD_length HR])
      have fs1 : 1 ≤ f0.size := by have := fs.out; omega
      have fs2 : f0.size ≤ 1000 := by have := fs.out; omega
      clear hf0 hwl
      have hb3 : Below w.heap.size w w2 := hb1.trans (hb2.mono (by have := hb1.size; omega))
      go_wp2_with fail
      go_loop [5] (fun v => ∃ f : ByteArray, v = .string f ∧ f.size ≤ 1000 ∧ Hid (strip0 f.data.toList = strip0 (fracD r))) (fun v => (strOf v).size)
      case atStart => exact ⟨_, rfl, by rw [ByteArray.size_extract]; omega, Lib.hid (by rw [extract_list, HF.out, List.take_of_length_le (by have := fs.out; rw [List.length_cons, fracD_length HR]; omega)]; rfl)⟩
      case round =>
        obtain ⟨f, rfl, hfs, HS⟩ := hrel
        have hpos : 0 < f.size := by
          rcases Nat.eq_zero_or_pos f.size with h | h
          · exfalso
            have h2 : f.data.toList = [] := List.length_eq_zero_iff.1 (by rw [← size_len]; exact h)
            have h3 := HS.out
            rw [h2] at h3
            exact HSN.out h3.symm
          · exact h
        have q1 : (0 : Int) ≤ (f.size : Int) - 1 := by omega
        have q2 : ((f.size : Int) - 1).toNat = f.size - 1 := by omega
        have q3 : f.size - 1 < f.size := by omega
        have HL := Lib.hid (last_split f hpos)
        have hx : f[f.size - 1].toNat < 256 := UInt8.toNat_lt _
        by_cases h48 : f[f.size - 1] = 48
        · have t1 : ((f[f.size - 1].toNat : Int) == 48) = true := beq_iff_eq.2 (by rw [h48]; rfl)
          have HN := Lib.hid (show strip0 (f.extract 0 (f.size - 1)).data.toList = strip0 (fracD r) by
            rw [← HS.out]; conv => rhs; rw [HL.out, strip0_snoc, if_pos h48])
          clear h48
          go_wp2_with fail
          go_round
          case rel => exact ⟨_, rfl, by rw [ByteArray.size_extract]; omega, HN⟩
          case measure => simp [strOf]; omega
        · have t1 : ((f[f.size - 1].toNat : Int) == 48) = false := beq_eq_false_iff_ne.2 (fun e => h48 (UInt8.toNat_inj.1 (by show f[f.size - 1].toNat = 48; omega)))
          have HN := Lib.hid (show f.data.toList = strip0 (fracD r) by
            rw [← HS.out]; rw [HL.out, strip0_snoc, if_neg h48])
          clear h48
          have HZ := Lib.hid (show (t ++ (({ data := #[46] } : ByteArray) ++ f)).data.toList = bodyT m by rw [app_list, app_list, HT.out, HN.out, HB2.out]; rfl)
          have HZN := Lib.hid (show ¬ (t ++ (({ data := #[46] } : ByteArray) ++ f)).data.toList = [] by rw [app_list, app_list]; simp)
          have hz1 : ((t ++ (({ data := #[46] } : ByteArray) ++ f)).toList == []) = false := by
            rw [ByteArray.toList_eq]; exact beq_eq_false_iff_ne.2 HZN.out
          have hz2 : (t ++ (({ data := #[46] } : ByteArray) ++ f)).toList.isEmpty = false := by
            rw [ByteArray.toList_eq]
            cases hh : (t ++ (({ data := #[46] } : ByteArray) ++ f)).data.toList with
            | nil => exact absurd hh HZN.out
            | cons => rfl
          go_wp2_with fail
          go_ret
          exact ⟨_, HZ.out, rfl, hb3⟩

theorem l01Text_any (n : Int) (w : World) (hn : IsNum n) : Calls Tryz.prog 161 #[.int .i64 n] w (StrPost (textOf n) w) := by
  obtain ⟨h1, h2⟩ := hn
  by_cases h : n < 0
  · obtain ⟨m, rfl⟩ : ∃ m : Nat, n = -(m : Int) := ⟨n.natAbs, by omega⟩
    have HT := Lib.hid (show textOf (-(m : Int)) = 45 :: bodyT m by unfold textOf; rw [if_pos h, show (-(m : Int)).natAbs = m by omega])
    have HL := Lib.hid (show (bodyT m).length ≤ 19 by
      have := textOf_len (n := -(m : Int)) ⟨h1, h2⟩
      rw [HT.out, List.length_cons] at this
      omega)
    have e2 : - -(m : Int) = (m : Int) := by omega
    go_enter Tryz.func161, Tryz.ntmps161
    go_wp2_with fail
    refine (l01TextP_any m w (by omega)).mono ?_
    rintro e w1 ⟨t, ht, rfl, hb1⟩
    have ts : t.size ≤ 1000 := by have h1 := size_len t; rw [ht] at h1; have := HL.out; omega
    have HT2 := Lib.hid ht
    clear ht
    go_wp2_with fail
    go_ret
    exact ⟨_, by rw [HT.out, app_list, HT2.out]; rfl, rfl, hb1⟩
  · obtain ⟨m, rfl⟩ : ∃ m : Nat, n = (m : Int) := ⟨n.natAbs, by omega⟩
    have HT := Lib.hid (show textOf (m : Int) = bodyT m by unfold textOf; rw [if_neg h, show (m : Int).natAbs = m by omega])
    rw [HT.out]
    exact l01TextP_any m w (by omega)


set_option maxHeartbeats 1000000 in
theorem l01Canon_any (s : ByteArray) (w : World) (hs : s.size ≤ 9223372036854775000) : Calls Tryz.prog 142 #[.string s] w (BoolPost (canonB s.data.toList) w) := by
  have HC := Lib.hid (canonB_spec s.data.toList)
  by_cases h0 : s.data.toList = []
  · obtain rfl : s = ⟨#[]⟩ := ba_ext h0
    clear h0
    go_enter Tryz.func142, Tryz.ntmps142
    go_wp2_with fail
    go_ret
    exact ⟨by rw [HC.out]; rfl, Below.refl _ _⟩
  · have hz : s.toList.isEmpty = false := by
      rw [isEmpty_toList]
      cases hh : s.data.toList with
      | nil => exact absurd hh h0
      | cons => rfl
    have hz1 : (s.toList == []) = false := by rw [ByteArray.toList_eq]; exact beq_eq_false_iff_ne.2 h0
    have HZ := Lib.hid (show s.data.toList.isEmpty = false by rw [← isEmpty_toList]; exact hz)
    clear h0
    have hl := Lib.hid (size_len s)
    by_cases h21 : s.size ≤ 21
    · have HC2 := Lib.hid (show canonB s.data.toList = decide (textOf (numOf s.data.toList) = s.data.toList) by
        rw [HC.out, HZ.out, decide_eq_true (show s.data.toList.length ≤ 21 by have := hl.out; omega)]; rfl)
      have d21 : decide ((s.size : Int) ≤ 21) = true := decide_eq_true (by omega)
      clear HC
      go_enter Tryz.func142, Tryz.ntmps142
      go_wp2_with fail
      refine (l01Of_any s w hs).mono ?_
      rintro e w1 ⟨rfl, rfl⟩
      have hin : IsNum (numOf s.data.toList) := numOf_range _
      generalize numOf s.data.toList = k at *
      go_wp2_with fail
      refine (l01Text_any k w hin).mono ?_
      rintro e w2 ⟨t, ht, rfl, hb1⟩
      have HT := Lib.hid ht
      clear ht
      by_cases heq : t = s
      · have HV := Lib.hid (show canonB s.data.toList = true by rw [HC2.out, ← HT.out, heq]; exact decide_eq_true rfl)
        subst heq
        go_wp2_with fail
        go_ret
        exact ⟨by rw [HV.out]; simp, hb1⟩
      · have HV := Lib.hid (show canonB s.data.toList = false by rw [HC2.out, ← HT.out]; exact decide_eq_false (fun e => heq (ba_ext e)))
        have hq : (t.toList == s.toList) = false := by rw [toList_beq']; exact decide_eq_false heq
        go_wp2_with fail
        go_ret
        exact ⟨by rw [HV.out]; rfl, hb1⟩
    · have HV := Lib.hid (show canonB s.data.toList = false by
        rw [HC.out, decide_eq_false (show ¬ s.data.toList.length ≤ 21 by have := hl.out; omega), Bool.false_and, Bool.and_false])
      have d21 : decide ((s.size : Int) ≤ 21) = false := decide_eq_false (by omega)
      clear HC
      go_enter Tryz.func142, Tryz.ntmps142
      go_wp2_with fail
      go_ret
      exact ⟨by rw [HV.out]; rfl, Below.refl _ _⟩

set_option maxHeartbeats 1000000 in
theorem l02Before_any (a b : ByteArray) (w : World) (ha : a.size ≤ 9223372036854775000) (hb : b.size ≤ 9223372036854775000) : Calls Tryz.prog 128 #[.string a, .string b] w (BoolPost (beforeB a.data.toList b.data.toList) w) := by
  go_enter Tryz.func128, Tryz.ntmps128
  go_wp2_with fail
  refine (l01Canon_any a w ha).mono ?_
  rintro e w1 ⟨rfl, hb1⟩
  go_wp2_with fail
  refine (l01Canon_any b w1 hb).mono ?_
  rintro e w2 ⟨rfl, hb2⟩
  have hw2 : Below w.heap.size w w2 := hb1.trans (hb2.mono (by have := hb1.size; omega))
  have HL := Lib.hid (less_eq a b)
  cases hA : canonB a.data.toList <;> cases hB : canonB b.data.toList
  · have HV := Lib.hid (show beforeB a.data.toList b.data.toList = Op.bytesLess a.toList b.toList by unfold beforeB; rw [hA, hB, HL.out]; rfl)
    clear hA hB
    go_wp2_with fail
    go_ret
    exact ⟨by rw [HV.out]; rfl, hw2⟩
  · have HV := Lib.hid (show beforeB a.data.toList b.data.toList = false by unfold beforeB; rw [hA, hB]; rfl)
    clear hA hB
    go_wp2_with fail
    go_ret
    exact ⟨by rw [HV.out]; rfl, hw2⟩
  · have HV := Lib.hid (show beforeB a.data.toList b.data.toList = true by unfold beforeB; rw [hA, hB]; rfl)
    clear hA hB
    go_wp2_with fail
    go_ret
    exact ⟨by rw [HV.out]; rfl, hw2⟩
  · have HV := Lib.hid (show beforeB a.data.toList b.data.toList = decide (numOf a.data.toList < numOf b.data.toList) by unfold beforeB; rw [hA, hB]; rfl)
    clear hA hB
    go_wp2_with fail
    refine (l01Of_any a w2 ha).mono ?_
    rintro e w3 ⟨rfl, rfl⟩
    go_wp2_with fail
    refine (l01Of_any b w2 hb).mono ?_
    rintro e w3 ⟨rfl, rfl⟩
    generalize numOf a.data.toList = x at *
    generalize numOf b.data.toList = y at *
    go_wp2_with fail
    go_ret
    exact ⟨by rw [HV.out]; rfl, hw2⟩

end Go.Proofs.YtbknfkdjhajimaaGreatDoor
