/- The program's NumText and IsCanon. -/
import Derived.Test.YtbknfkdjhajimaaGreatDoorNumOf
import Derived.Test.YtbknfkdjhajimaaGreatDoorArith
import Derived.Lib.AppendIntMem
namespace Go.Proofs.YtbknfkdjhajimaaGreatDoor
open Go.RowKit Go.Shelf
set_option linter.unusedVariables false

/-- The library's table of powers lies as its text lays it. -/
def Tab (w : World) : Prop := Lib.TabIs Tryz.prog w "internal/strconv.uint64pow10" .u64 Lib.pow10Tab
theorem tab_global : Tryz.prog.globalNamed "internal/strconv.uint64pow10" = some 1 := by kernel_rfl
theorem Tab.below {w w' : World} (h : Tab w) (hb : Below w.heap.size w w') : Tab w' := Lib.tabBelow_of_tabIs h w' hb

theorem fmt_any (m : Nat) (w : World) (hm : m ≤ 9223372036854775807) (ht : Tab w) : Calls Tryz.prog 151 #[.int .i64 (m : Int), .int .i64 10] w (StrPost (Lib.decDigits m) w) := by
  refine (Tryz.strconv_FormatInt_10 (m : Int) (by omega) (by omega) w ht).mono ?_
  rintro e w' ⟨rfl, k, os, rfl⟩
  refine .of ?_ (Lib.below_grow _ _ (Nat.le_refl _) _ _)
  rw [show Lib.itoa (m : Int) = Lib.decDigits m by unfold Lib.itoa; rw [if_neg (by omega)]; simp]
theorem fmt_frac (r : Nat) (w : World) (hm : r < 1000000) (ht : Tab w) : Calls Tryz.prog 151 #[.int .i64 (1000000 + (r : Int)), .int .i64 10] w (StrPost (Lib.decDigits (1000000 + r)) w) := by
  have h := fmt_any (1000000 + r) w (by omega) ht
  rw [show ((1000000 + r : Nat) : Int) = 1000000 + (r : Int) by omega] at h
  exact h
theorem trimR_zero (s : ByteArray) (w : World) (hs : s.size ≤ 9223372036854775807) : Calls Tryz.prog 152 #[.string s, .string ⟨#[48]⟩] w fun e w' => (∃ r : ByteArray, r.data.toList = strip0 s.data.toList ∧ e = .returned (.string r)) ∧ w = w' := by
  refine (Tryz.strings_TrimRight_one s 48 (by decide) w hs).mono ?_
  rintro e w' ⟨rfl, hw⟩
  exact ⟨⟨_, mk_list _, rfl⟩, hw.symm⟩
theorem decDigits_frac {r : Nat} (h : r < 1000000) : (Lib.decDigits (1000000 + r)).drop 1 = fracD r := by
  unfold fracD; rw [wholeD_dec (by omega)]
theorem dec_len (r : Nat) (h : r < 1000000) : (Lib.decDigits (1000000 + r)).length = 7 := by
  rw [← wholeD_dec (by omega)]; exact wholeD_length (k := 6) (by omega) (by omega)

theorem numText_zero (w : World) : Calls Tryz.prog 134 #[.int .i64 0] w (StrPost (textOf 0) w) := by
  go_enter Tryz.func134, Tryz.ntmps134
  go_wp2_with fail
  refine (isNum_any 0 true (by decide) _).mono ?_
  rintro e w1 ⟨rfl, rfl⟩
  go_wp2_with fail
  go_ret
  exact ⟨⟨#[48]⟩, by decide, rfl, Below.refl _ _⟩

set_option maxHeartbeats 1000000 in
theorem numText_pf (m : Nat) (w : World) (h0 : 0 < m) (hm : m ≤ 999999999999999999) (ht : Tab w) (hq : m < 1000000) (hr : 0 < m % 1000000) : Calls Tryz.prog 134 #[.int .i64 ((m : Int))] w (StrPost (textOf ((m : Int))) w) := by
  have HT := Lib.hid (show textOf ((m : Int)) = body m by unfold textOf bodyT; rw [if_neg (by omega), if_neg (by omega), show ((m : Int) : Int).natAbs = m by omega])
  have HB := Lib.hid (show body m = [] ++ 46 :: strip0 (fracD (m % 1000000)) by unfold body; rw [if_neg (by omega), show m / 1000000 = 0 by omega, wholeD_zero])
  have e0 : (((m : Int) : Int) == 0) = false := beq_eq_false_iff_ne.2 (by omega)
  have e1 : ¬ (m : Int) < 0 := by omega
  have e3 : decide ((1000000 : Int) ≤ (m : Int)) = false := decide_eq_false (by omega)
  have e6 : (m : Int) % 1000000 = ((m % 1000000 : Nat) : Int) := by omega
  have HQ : m / 1000000 ≤ 999999999999 := by omega
  have HR : m % 1000000 < 1000000 := by omega
  generalize hgr : m % 1000000 = r at *
  clear hgr
  have HIN := Lib.hid (show inR ((m : Int) : Int) (-999999999999999999) 999999999999999999 = true from inR_t (by omega) (by omega)); have hm2 : m ≤ 1000000000 := by omega
  clear HQ hq hm
  go_enter Tryz.func134, Tryz.ntmps134
  go_wp2_with fail
  refine (isNum_any _ true HIN.out _).mono ?_
  rintro e w1 ⟨rfl, rfl⟩
  go_wp2_with fail
  refine (fmt_frac r w HR ht).mono ?_
  rintro e w2 ⟨f, hf, rfl, hb2⟩
  have HF := Lib.hid hf; clear hf
  have fs := Lib.hid (show f.size = 7 by rw [size_len f, HF.out]; exact dec_len r HR)
  have fs1 : 1 ≤ f.size := by have := fs.out; omega
  have fs2 : f.size ≤ 9223372036854775807 := by have := fs.out; omega
  go_wp2_with fail
  refine (trimR_zero _ _ (by rw [ByteArray.size_extract]; omega)).mono ?_
  rintro e w3 ⟨⟨t, htl, rfl⟩, rfl⟩
  have HTT := Lib.hid htl; clear htl
  have ts : t.size ≤ 1000 := by have h1 := size_len t; rw [HTT.out] at h1; have := strip0_len (f.extract 1 f.size).data.toList; rw [← size_len (f.extract 1 f.size), ByteArray.size_extract] at this; have := fs.out; omega
  go_wp2_with fail
  go_ret
  refine ⟨_, ?_, rfl, hb2⟩
  rw [HT.out, HB.out, app_list, app_list, HTT.out, extract_list, HF.out, List.take_of_length_le (by rw [fs.out]; exact Nat.le_of_eq (dec_len r HR)), decDigits_frac HR]
  try rfl
set_option maxHeartbeats 1000000 in
theorem numText_pw (m : Nat) (w : World) (h0 : 0 < m) (hm : m ≤ 999999999999999999) (ht : Tab w) (hq : 1000000 ≤ m) (hr : m % 1000000 = 0) : Calls Tryz.prog 134 #[.int .i64 ((m : Int))] w (StrPost (textOf ((m : Int))) w) := by
  have HT := Lib.hid (show textOf ((m : Int)) = body m by unfold textOf bodyT; rw [if_neg (by omega), if_neg (by omega), show ((m : Int) : Int).natAbs = m by omega])
  have HB := Lib.hid (show body m = wholeD (m / 1000000) by unfold body; rw [if_pos hr]; exact List.append_nil _)
  have e0 : (((m : Int) : Int) == 0) = false := beq_eq_false_iff_ne.2 (by omega)
  have e1 : ¬ (m : Int) < 0 := by omega
  have e3 : (1000000 : Int) ≤ (m : Int) := by omega
  have e5 : (m : Int) / 1000000 = ((m / 1000000 : Nat) : Int) := by omega
  have e6 : (m : Int) % 1000000 = ((m % 1000000 : Nat) : Int) := by omega
  have HQ : m / 1000000 ≤ 999999999999 := by omega
  have HR : m % 1000000 < 1000000 := by omega
  have HD := Lib.hid (show Lib.decDigits (m / 1000000) = wholeD (m / 1000000) from (wholeD_dec (by omega)).symm)
  generalize m / 1000000 = q at *
  generalize hgr : m % 1000000 = r at *
  clear hgr
  go_enter Tryz.func134, Tryz.ntmps134
  go_wp2_with fail
  refine (isNum_any _ true (inR_t (by omega) (by omega)) _).mono ?_
  rintro e w1 ⟨rfl, rfl⟩
  go_wp2_with fail
  refine (fmt_any q w (by omega) ht).mono ?_
  rintro e w1 ⟨d, hd, rfl, hb1⟩
  have HDD := Lib.hid hd; clear hd
  have ds : d.size ≤ 1000 := by have h1 := size_len d; rw [HDD.out, HD.out] at h1; have := wholeD_len_le (n := q) (k := 12) (by omega); omega
  have ht1 := Tab.below ht hb1
  go_wp2_with fail
  go_ret
  refine ⟨_, ?_, rfl, hb1⟩
  rw [HT.out, HB.out, app_list, HDD.out, HD.out]
  try rfl
set_option maxHeartbeats 1000000 in
theorem numText_pwf (m : Nat) (w : World) (h0 : 0 < m) (hm : m ≤ 999999999999999999) (ht : Tab w) (hq : 1000000 ≤ m) (hr : 0 < m % 1000000) : Calls Tryz.prog 134 #[.int .i64 ((m : Int))] w (StrPost (textOf ((m : Int))) w) := by
  have HT := Lib.hid (show textOf ((m : Int)) = body m by unfold textOf bodyT; rw [if_neg (by omega), if_neg (by omega), show ((m : Int) : Int).natAbs = m by omega])
  have HB := Lib.hid (show body m = wholeD (m / 1000000) ++ 46 :: strip0 (fracD (m % 1000000)) by unfold body; rw [if_neg (by omega)])
  have e0 : (((m : Int) : Int) == 0) = false := beq_eq_false_iff_ne.2 (by omega)
  have e1 : ¬ (m : Int) < 0 := by omega
  have e3 : (1000000 : Int) ≤ (m : Int) := by omega
  have e5 : (m : Int) / 1000000 = ((m / 1000000 : Nat) : Int) := by omega
  have e6 : (m : Int) % 1000000 = ((m % 1000000 : Nat) : Int) := by omega
  have HQ : m / 1000000 ≤ 999999999999 := by omega
  have HR : m % 1000000 < 1000000 := by omega
  have HD := Lib.hid (show Lib.decDigits (m / 1000000) = wholeD (m / 1000000) from (wholeD_dec (by omega)).symm)
  generalize m / 1000000 = q at *
  generalize hgr : m % 1000000 = r at *
  clear hgr
  go_enter Tryz.func134, Tryz.ntmps134
  go_wp2_with fail
  refine (isNum_any _ true (inR_t (by omega) (by omega)) _).mono ?_
  rintro e w1 ⟨rfl, rfl⟩
  go_wp2_with fail
  refine (fmt_any q w (by omega) ht).mono ?_
  rintro e w1 ⟨d, hd, rfl, hb1⟩
  have HDD := Lib.hid hd; clear hd
  have ds : d.size ≤ 1000 := by have h1 := size_len d; rw [HDD.out, HD.out] at h1; have := wholeD_len_le (n := q) (k := 12) (by omega); omega
  have ht1 := Tab.below ht hb1
  go_wp2_with fail
  refine (fmt_frac r w1 HR ht1).mono ?_
  rintro e w2 ⟨f, hf, rfl, hb2⟩
  have HF := Lib.hid hf; clear hf
  have fs := Lib.hid (show f.size = 7 by rw [size_len f, HF.out]; exact dec_len r HR)
  have fs1 : 1 ≤ f.size := by have := fs.out; omega
  have fs2 : f.size ≤ 9223372036854775807 := by have := fs.out; omega
  go_wp2_with fail
  refine (trimR_zero _ _ (by rw [ByteArray.size_extract]; omega)).mono ?_
  rintro e w3 ⟨⟨t, htl, rfl⟩, rfl⟩
  have HTT := Lib.hid htl; clear htl
  have ts : t.size ≤ 1000 := by have h1 := size_len t; rw [HTT.out] at h1; have := strip0_len (f.extract 1 f.size).data.toList; rw [← size_len (f.extract 1 f.size), ByteArray.size_extract] at this; have := fs.out; omega
  go_wp2_with fail
  go_ret
  refine ⟨_, ?_, rfl, hb1.trans (hb2.mono (by have := hb1.size; omega))⟩
  rw [HT.out, HB.out, app_list, app_list, app_list, HTT.out, extract_list, HF.out, List.take_of_length_le (by rw [fs.out]; exact Nat.le_of_eq (dec_len r HR)), decDigits_frac HR, HDD.out, HD.out]
  try rfl
set_option maxHeartbeats 1000000 in
theorem numText_nf (m : Nat) (w : World) (h0 : 0 < m) (hm : m ≤ 999999999999999999) (ht : Tab w) (hq : m < 1000000) (hr : 0 < m % 1000000) : Calls Tryz.prog 134 #[.int .i64 (-(m : Int))] w (StrPost (textOf (-(m : Int))) w) := by
  have HT := Lib.hid (show textOf (-(m : Int)) = 45 :: body m by unfold textOf bodyT; rw [if_pos (by omega), if_neg (by omega), show (-(m : Int) : Int).natAbs = m by omega])
  have HB := Lib.hid (show body m = [] ++ 46 :: strip0 (fracD (m % 1000000)) by unfold body; rw [if_neg (by omega), show m / 1000000 = 0 by omega, wholeD_zero])
  have e0 : ((-(m : Int) : Int) == 0) = false := beq_eq_false_iff_ne.2 (by omega)
  have e1 : (-(m : Int)) < 0 := by omega
  have e2 : - -(m : Int) = (m : Int) := by omega
  have e3 : decide ((1000000 : Int) ≤ (m : Int)) = false := decide_eq_false (by omega)
  have e6 : (m : Int) % 1000000 = ((m % 1000000 : Nat) : Int) := by omega
  have HQ : m / 1000000 ≤ 999999999999 := by omega
  have HR : m % 1000000 < 1000000 := by omega
  generalize hgr : m % 1000000 = r at *
  clear hgr
  have HIN := Lib.hid (show inR (-(m : Int) : Int) (-999999999999999999) 999999999999999999 = true from inR_t (by omega) (by omega)); have hm2 : m ≤ 1000000000 := by omega
  clear HQ hq hm
  go_enter Tryz.func134, Tryz.ntmps134
  go_wp2_with fail
  refine (isNum_any _ true HIN.out _).mono ?_
  rintro e w1 ⟨rfl, rfl⟩
  go_wp2_with fail
  refine (fmt_frac r w HR ht).mono ?_
  rintro e w2 ⟨f, hf, rfl, hb2⟩
  have HF := Lib.hid hf; clear hf
  have fs := Lib.hid (show f.size = 7 by rw [size_len f, HF.out]; exact dec_len r HR)
  have fs1 : 1 ≤ f.size := by have := fs.out; omega
  have fs2 : f.size ≤ 9223372036854775807 := by have := fs.out; omega
  go_wp2_with fail
  refine (trimR_zero _ _ (by rw [ByteArray.size_extract]; omega)).mono ?_
  rintro e w3 ⟨⟨t, htl, rfl⟩, rfl⟩
  have HTT := Lib.hid htl; clear htl
  have ts : t.size ≤ 1000 := by have h1 := size_len t; rw [HTT.out] at h1; have := strip0_len (f.extract 1 f.size).data.toList; rw [← size_len (f.extract 1 f.size), ByteArray.size_extract] at this; have := fs.out; omega
  go_wp2_with fail
  go_ret
  refine ⟨_, ?_, rfl, hb2⟩
  rw [HT.out, HB.out, app_list, app_list, HTT.out, extract_list, HF.out, List.take_of_length_le (by rw [fs.out]; exact Nat.le_of_eq (dec_len r HR)), decDigits_frac HR]
  try rfl
set_option maxHeartbeats 1000000 in
theorem numText_nw (m : Nat) (w : World) (h0 : 0 < m) (hm : m ≤ 999999999999999999) (ht : Tab w) (hq : 1000000 ≤ m) (hr : m % 1000000 = 0) : Calls Tryz.prog 134 #[.int .i64 (-(m : Int))] w (StrPost (textOf (-(m : Int))) w) := by
  have HT := Lib.hid (show textOf (-(m : Int)) = 45 :: body m by unfold textOf bodyT; rw [if_pos (by omega), if_neg (by omega), show (-(m : Int) : Int).natAbs = m by omega])
  have HB := Lib.hid (show body m = wholeD (m / 1000000) by unfold body; rw [if_pos hr]; exact List.append_nil _)
  have e0 : ((-(m : Int) : Int) == 0) = false := beq_eq_false_iff_ne.2 (by omega)
  have e1 : (-(m : Int)) < 0 := by omega
  have e2 : - -(m : Int) = (m : Int) := by omega
  have e3 : (1000000 : Int) ≤ (m : Int) := by omega
  have e5 : (m : Int) / 1000000 = ((m / 1000000 : Nat) : Int) := by omega
  have e6 : (m : Int) % 1000000 = ((m % 1000000 : Nat) : Int) := by omega
  have HQ : m / 1000000 ≤ 999999999999 := by omega
  have HR : m % 1000000 < 1000000 := by omega
  have HD := Lib.hid (show Lib.decDigits (m / 1000000) = wholeD (m / 1000000) from (wholeD_dec (by omega)).symm)
  generalize m / 1000000 = q at *
  generalize hgr : m % 1000000 = r at *
  clear hgr
  go_enter Tryz.func134, Tryz.ntmps134
  go_wp2_with fail
  refine (isNum_any _ true (inR_t (by omega) (by omega)) _).mono ?_
  rintro e w1 ⟨rfl, rfl⟩
  go_wp2_with fail
  refine (fmt_any q w (by omega) ht).mono ?_
  rintro e w1 ⟨d, hd, rfl, hb1⟩
  have HDD := Lib.hid hd; clear hd
  have ds : d.size ≤ 1000 := by have h1 := size_len d; rw [HDD.out, HD.out] at h1; have := wholeD_len_le (n := q) (k := 12) (by omega); omega
  have ht1 := Tab.below ht hb1
  go_wp2_with fail
  go_ret
  refine ⟨_, ?_, rfl, hb1⟩
  rw [HT.out, HB.out, app_list, HDD.out, HD.out]
  try rfl
set_option maxHeartbeats 1000000 in
theorem numText_nwf (m : Nat) (w : World) (h0 : 0 < m) (hm : m ≤ 999999999999999999) (ht : Tab w) (hq : 1000000 ≤ m) (hr : 0 < m % 1000000) : Calls Tryz.prog 134 #[.int .i64 (-(m : Int))] w (StrPost (textOf (-(m : Int))) w) := by
  have HT := Lib.hid (show textOf (-(m : Int)) = 45 :: body m by unfold textOf bodyT; rw [if_pos (by omega), if_neg (by omega), show (-(m : Int) : Int).natAbs = m by omega])
  have HB := Lib.hid (show body m = wholeD (m / 1000000) ++ 46 :: strip0 (fracD (m % 1000000)) by unfold body; rw [if_neg (by omega)])
  have e0 : ((-(m : Int) : Int) == 0) = false := beq_eq_false_iff_ne.2 (by omega)
  have e1 : (-(m : Int)) < 0 := by omega
  have e2 : - -(m : Int) = (m : Int) := by omega
  have e3 : (1000000 : Int) ≤ (m : Int) := by omega
  have e5 : (m : Int) / 1000000 = ((m / 1000000 : Nat) : Int) := by omega
  have e6 : (m : Int) % 1000000 = ((m % 1000000 : Nat) : Int) := by omega
  have HQ : m / 1000000 ≤ 999999999999 := by omega
  have HR : m % 1000000 < 1000000 := by omega
  have HD := Lib.hid (show Lib.decDigits (m / 1000000) = wholeD (m / 1000000) from (wholeD_dec (by omega)).symm)
  generalize m / 1000000 = q at *
  generalize hgr : m % 1000000 = r at *
  clear hgr
  go_enter Tryz.func134, Tryz.ntmps134
  go_wp2_with fail
  refine (isNum_any _ true (inR_t (by omega) (by omega)) _).mono ?_
  rintro e w1 ⟨rfl, rfl⟩
  go_wp2_with fail
  refine (fmt_any q w (by omega) ht).mono ?_
  rintro e w1 ⟨d, hd, rfl, hb1⟩
  have HDD := Lib.hid hd; clear hd
  have ds : d.size ≤ 1000 := by have h1 := size_len d; rw [HDD.out, HD.out] at h1; have := wholeD_len_le (n := q) (k := 12) (by omega); omega
  have ht1 := Tab.below ht hb1
  go_wp2_with fail
  refine (fmt_frac r w1 HR ht1).mono ?_
  rintro e w2 ⟨f, hf, rfl, hb2⟩
  have HF := Lib.hid hf; clear hf
  have fs := Lib.hid (show f.size = 7 by rw [size_len f, HF.out]; exact dec_len r HR)
  have fs1 : 1 ≤ f.size := by have := fs.out; omega
  have fs2 : f.size ≤ 9223372036854775807 := by have := fs.out; omega
  go_wp2_with fail
  refine (trimR_zero _ _ (by rw [ByteArray.size_extract]; omega)).mono ?_
  rintro e w3 ⟨⟨t, htl, rfl⟩, rfl⟩
  have HTT := Lib.hid htl; clear htl
  have ts : t.size ≤ 1000 := by have h1 := size_len t; rw [HTT.out] at h1; have := strip0_len (f.extract 1 f.size).data.toList; rw [← size_len (f.extract 1 f.size), ByteArray.size_extract] at this; have := fs.out; omega
  go_wp2_with fail
  go_ret
  refine ⟨_, ?_, rfl, hb1.trans (hb2.mono (by have := hb1.size; omega))⟩
  rw [HT.out, HB.out, app_list, app_list, app_list, HTT.out, extract_list, HF.out, List.take_of_length_le (by rw [fs.out]; exact Nat.le_of_eq (dec_len r HR)), decDigits_frac HR, HDD.out, HD.out]
  try rfl

theorem NumText_any (n : Int) (w : World) (hn : IsNum n) (ht : Tab w) : Calls Tryz.prog 134 #[.int .i64 n] w (StrPost (textOf n) w) := by
  obtain ⟨h1, h2⟩ := hn
  rcases Int.lt_trichotomy n 0 with h | h | h
  · obtain ⟨m, rfl⟩ : ∃ m : Nat, n = -(m : Int) := ⟨n.natAbs, by omega⟩
    by_cases hq : 1000000 ≤ m <;> by_cases hr : m % 1000000 = 0
    · exact numText_nw m w (by omega) (by omega) ht hq hr
    · exact numText_nwf m w (by omega) (by omega) ht hq (by omega)
    · omega
    · exact numText_nf m w (by omega) (by omega) ht (by omega) (by omega)
  · subst h; exact numText_zero w
  · obtain ⟨m, rfl⟩ : ∃ m : Nat, n = (m : Int) := ⟨n.natAbs, by omega⟩
    by_cases hq : 1000000 ≤ m <;> by_cases hr : m % 1000000 = 0
    · exact numText_pw m w (by omega) (by omega) ht hq hr
    · exact numText_pwf m w (by omega) (by omega) ht hq (by omega)
    · omega
    · exact numText_pf m w (by omega) (by omega) ht (by omega) (by omega)

theorem IsCanon_any (s : ByteArray) (w : World) (hs : s.size ≤ 9223372036854775000) (ht : Tab w) : Calls Tryz.prog 138 #[.string s] w (BoolPost (canonB s.data.toList) w) := by
  go_enter Tryz.func138, Tryz.ntmps138
  go_wp2_with fail
  refine (NumOf_any s w hs).mono ?_
  rintro e w1 ⟨k, hk, rfl, hb1⟩
  have HK := Lib.hid hk; clear hk
  have ht1 := Tab.below ht hb1
  have hin : IsNum k := by rw [HK.out]; exact numOf_range _
  go_wp2_with fail
  refine (NumText_any k w1 hin ht1).mono ?_
  rintro e w2 ⟨t, htt, rfl, hb2⟩
  have HTT := Lib.hid htt; clear htt
  by_cases heq : t = s
  · have HC := Lib.hid (show canonB s.data.toList = true by unfold canonB; rw [← HK.out, ← HTT.out, heq]; exact decide_eq_true rfl)
    subst heq
    go_wp2_with fail
    go_ret
    exact ⟨by rw [HC.out]; simp, hb1.trans (hb2.mono (by have := hb1.size; omega))⟩
  · have HC := Lib.hid (show canonB s.data.toList = false by unfold canonB; rw [← HK.out, ← HTT.out]; exact decide_eq_false (fun e => heq (ba_ext e)))
    have hq : (t.toList == s.toList) = false := by rw [toList_beq']; exact decide_eq_false heq
    go_wp2_with fail
    go_ret
    exact ⟨by rw [HC.out]; rfl, hb1.trans (hb2.mono (by have := hb1.size; omega))⟩
end Go.Proofs.YtbknfkdjhajimaaGreatDoor
