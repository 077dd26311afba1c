/- Contracts of the program's number functions: within, isNum, operands, checkedNum, AddNum, SubNum; the reference's l00In, l01Is; the drawn number A8Num; the mixed bytes a8Mix. -/
import Derived.Test.YtajchbafolgcoaaNum
import Derived.Test.YtajchbafolgcoaaApp
namespace Go.Proofs.Ytajchbafolgcoaa
open Go.RowKit
set_option linter.unusedVariables false

/-- From lo to hi. -/
def inR (n lo hi : Int) : Bool := decide (lo ≤ n ∧ n ≤ hi)
theorem inR_t {n lo hi : Int} (h : lo ≤ n) (k : n ≤ hi) : inR n lo hi = true := by simp [inR, h, k]
theorem inR_f {n lo hi : Int} (h : n < lo ∨ hi < n) : inR n lo hi = false := by simp only [inR, decide_eq_false_iff_not]; omega

theorem within_any (n lo hi : Int) (b : Bool) (hb : inR n lo hi = b) (w : World) :
    Calls Try.prog 71 #[.int .i64 n, .int .i64 lo, .int .i64 hi] w fun e w' => e = .returned (.bool b) ∧ w = w' := by
  subst hb
  by_cases h1 : lo ≤ n
  · by_cases h2 : n ≤ hi
    · have hr := Lib.hid (inR_t h1 h2)
      go_enter Try.func71, Try.ntmps71
      go_wp2
      go_ret
      exact ⟨by rw [hr.out]; rfl, rfl⟩
    · have hr := Lib.hid (inR_f (n := n) (lo := lo) (hi := hi) (.inr (by omega)))
      have h3 : decide (n ≤ hi) = false := by simp; omega
      go_enter Try.func71, Try.ntmps71
      go_wp2
      go_ret
      exact ⟨by rw [hr.out]; rfl, rfl⟩
  · have hr := Lib.hid (inR_f (n := n) (lo := lo) (hi := hi) (.inl (by omega)))
    have h3 : decide (lo ≤ n) = false := by simp; omega
    go_enter Try.func71, Try.ntmps71
    go_wp2
    go_ret
    exact ⟨by rw [hr.out]; rfl, rfl⟩

theorem l00In_any (n lo hi : Int) (b : Bool) (hb : inR n lo hi = b) (w : World) :
    Calls Try.prog 90 #[.int .i64 n, .int .i64 lo, .int .i64 hi] w fun e w' => e = .returned (.bool b) ∧ w = w' := by
  subst hb
  by_cases h1 : lo ≤ n
  · by_cases h2 : n ≤ hi
    · have hr := Lib.hid (inR_t h1 h2)
      go_enter Try.func90, Try.ntmps90
      go_wp2
      go_ret
      exact ⟨by rw [hr.out]; rfl, rfl⟩
    · have hr := Lib.hid (inR_f (n := n) (lo := lo) (hi := hi) (.inr (by omega)))
      have h3 : decide (n ≤ hi) = false := by simp; omega
      go_enter Try.func90, Try.ntmps90
      go_wp2
      go_ret
      exact ⟨by rw [hr.out]; rfl, rfl⟩
  · have hr := Lib.hid (inR_f (n := n) (lo := lo) (hi := hi) (.inl (by omega)))
    have h3 : decide (lo ≤ n) = false := by simp; omega
    go_enter Try.func90, Try.ntmps90
    go_wp2
    go_ret
    exact ⟨by rw [hr.out]; rfl, rfl⟩

theorem l01Is_any (n : Int) (b : Bool) (hb : inR n (-999999999999999999) 999999999999999999 = b) (w : World) :
    Calls Try.prog 55 #[.int .i64 n] w fun e w' => e = .returned (.bool b) ∧ w = w' := by
  have HB := Lib.hid hb
  clear hb
  go_enter Try.func55, Try.ntmps55
  go_wp2_with fail
  refine (l00In_any _ _ _ b HB.out _).mono ?_
  rintro e w1 ⟨rfl, rfl⟩
  go_wp2_with fail
  go_ret
  exact ⟨rfl, rfl⟩

theorem isNum_any (n : Int) (b : Bool) (hb : inR n (-999999999999999999) 999999999999999999 = b) (w : World) :
    Calls Try.prog 112 #[.int .i64 n] w fun e w' => e = .returned (.bool b) ∧ w = w' := by
  have HB := Lib.hid hb
  clear hb
  go_enter Try.func112, Try.ntmps112
  go_wp2_with fail
  refine (within_any _ _ _ b HB.out _).mono ?_
  rintro e w1 ⟨rfl, rfl⟩
  go_wp2_with fail
  go_ret
  exact ⟨rfl, rfl⟩

/-- A number of the program. -/
def IsNum (n : Int) : Prop := -999999999999999999 ≤ n ∧ n ≤ 999999999999999999
theorem IsNum.inR {n : Int} (h : IsNum n) : inR n (-999999999999999999) 999999999999999999 = true := inR_t h.1 h.2

theorem operands_ok (a b : Int) (d : Bool) (ha : IsNum a) (hb : IsNum b) (hd : d = false ∨ b ≠ 0) (w : World) :
    Calls Try.prog 56 #[.int .i64 a, .int .i64 b, .bool d] w fun e w' => e = .returned (.int .i64 0) ∧ w = w' := by
  have hbd : d = false ∨ (d = true ∧ (b == 0) = false) := by
    cases d
    · exact .inl rfl
    · exact .inr ⟨rfl, by simp; rcases hd with h | h; cases h; exact h⟩
  rcases hbd with rfl | ⟨rfl, hz⟩
  · go_enter Try.func56, Try.ntmps56
    go_wp2_with fail
    refine (isNum_any _ true ha.inR _).mono ?_
    rintro e w1 ⟨rfl, rfl⟩
    go_wp2_with fail
    refine (isNum_any _ true hb.inR _).mono ?_
    rintro e w1 ⟨rfl, rfl⟩
    go_wp2_with fail
    go_ret
    exact ⟨rfl, rfl⟩
  · go_enter Try.func56, Try.ntmps56
    go_wp2_with fail
    refine (isNum_any _ true ha.inR _).mono ?_
    rintro e w1 ⟨rfl, rfl⟩
    go_wp2_with fail
    refine (isNum_any _ true hb.inR _).mono ?_
    rintro e w1 ⟨rfl, rfl⟩
    go_wp2_with fail
    go_ret
    exact ⟨rfl, rfl⟩

theorem operands_zero (a : Int) (ha : IsNum a) (w : World) :
    Calls Try.prog 56 #[.int .i64 a, .int .i64 0, .bool true] w fun e w' => e = .returned (.int .i64 8) ∧ w = w' := by
  go_enter Try.func56, Try.ntmps56
  go_wp2_with fail
  refine (isNum_any _ true ha.inR _).mono ?_
  rintro e w1 ⟨rfl, rfl⟩
  go_wp2_with fail
  refine (isNum_any 0 true (by decide) _).mono ?_
  rintro e w1 ⟨rfl, rfl⟩
  go_wp2_with fail
  go_ret
  exact ⟨rfl, rfl⟩

theorem checkedNum_ok (n : Int) (h : IsNum n) (w : World) :
    Calls Try.prog 57 #[.int .i64 n] w fun e w' => e = .returned (.tuple #[.int .i64 n, .int .i64 0]) ∧ w = w' := by
  go_enter Try.func57, Try.ntmps57
  go_wp2_with fail
  refine (isNum_any _ true h.inR _).mono ?_
  rintro e w1 ⟨rfl, rfl⟩
  go_wp2_with fail
  go_ret2
  exact ⟨rfl, rfl⟩
theorem checkedNum_no (n : Int) (h : n < -999999999999999999 ∨ 999999999999999999 < n) (w : World) :
    Calls Try.prog 57 #[.int .i64 n] w fun e w' => e = .returned (.tuple #[.int .i64 0, .int .i64 7]) ∧ w = w' := by
  have HB := Lib.hid (inR_f h)
  clear h
  go_enter Try.func57, Try.ntmps57
  go_wp2_with fail
  refine (isNum_any _ false HB.out _).mono ?_
  rintro e w1 ⟨rfl, rfl⟩
  go_wp2_with fail
  go_ret2
  exact ⟨rfl, rfl⟩

theorem addNum_ok (a b : Int) (ha : IsNum a) (hb : IsNum b) (h : IsNum (a + b)) (w : World) :
    Calls Try.prog 14 #[.int .i64 a, .int .i64 b] w fun e w' => e = .returned (.tuple #[.int .i64 (a + b), .int .i64 0]) ∧ w = w' := by
  have b1 := ha.1; have b2 := ha.2; have b3 := hb.1; have b4 := hb.2
  go_enter Try.func14, Try.ntmps14
  go_wp2_with fail
  refine (operands_ok _ _ _ ha hb (.inl rfl) _).mono ?_
  rintro e w1 ⟨rfl, rfl⟩
  go_wp2_with fail
  refine (checkedNum_ok _ h _).mono ?_
  rintro e w1 ⟨rfl, rfl⟩
  go_wp2_with fail
  go_ret2
  exact ⟨rfl, rfl⟩
theorem addNum_no (a b : Int) (ha : IsNum a) (hb : IsNum b) (h : a + b < -999999999999999999 ∨ 999999999999999999 < a + b) (w : World) :
    Calls Try.prog 14 #[.int .i64 a, .int .i64 b] w fun e w' => e = .returned (.tuple #[.int .i64 0, .int .i64 7]) ∧ w = w' := by
  have b1 := ha.1; have b2 := ha.2; have b3 := hb.1; have b4 := hb.2
  have H := Lib.hid h
  clear h
  go_enter Try.func14, Try.ntmps14
  go_wp2_with fail
  refine (operands_ok _ _ _ ha hb (.inl rfl) _).mono ?_
  rintro e w1 ⟨rfl, rfl⟩
  go_wp2_with fail
  refine (checkedNum_no _ H.out _).mono ?_
  rintro e w1 ⟨rfl, rfl⟩
  go_wp2_with fail
  go_ret2
  exact ⟨rfl, rfl⟩

theorem subNum_ok (a b : Int) (ha : IsNum a) (hb : IsNum b) (h : IsNum (a - b)) (w : World) :
    Calls Try.prog 15 #[.int .i64 a, .int .i64 b] w fun e w' => e = .returned (.tuple #[.int .i64 (a - b), .int .i64 0]) ∧ w = w' := by
  have b1 := ha.1; have b2 := ha.2; have b3 := hb.1; have b4 := hb.2
  go_enter Try.func15, Try.ntmps15
  go_wp2_with fail
  refine (operands_ok _ _ _ ha hb (.inl rfl) _).mono ?_
  rintro e w1 ⟨rfl, rfl⟩
  go_wp2_with fail
  refine (checkedNum_ok _ h _).mono ?_
  rintro e w1 ⟨rfl, rfl⟩
  go_wp2_with fail
  go_ret2
  exact ⟨rfl, rfl⟩
end Go.Proofs.Ytajchbafolgcoaa
