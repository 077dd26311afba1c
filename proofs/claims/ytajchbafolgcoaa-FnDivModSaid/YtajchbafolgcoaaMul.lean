/- Contracts of magnitude, ratio (at a million), MulNum. -/
import Derived.Test.YtajchbafolgcoaaDiv
namespace Go.Proofs.Ytajchbafolgcoaa
open Go.RowKit
set_option linter.unusedVariables false

theorem magnitude_any (n : Int) (x : Nat) (h : IsNum n) (hx : n.natAbs = x) (w : World) :
    Calls Try.prog 68 #[.int .i64 n] w fun e w' => e = .returned (.int .u64 x) ∧ w = w' := by
  have b1 := h.1; have b2 := h.2
  have HX := Lib.hid hx
  clear hx
  by_cases hn : n < 0
  · have e := Lib.hid (show -n = (x : Int) from by have := HX.out; omega)
    go_enter Try.func68, Try.ntmps68
    go_wp2_with fail
    go_ret
    exact ⟨by rw [← e.out]; rfl, rfl⟩
  · have e := Lib.hid (show n = (x : Int) from by have := HX.out; omega)
    go_enter Try.func68, Try.ntmps68
    go_wp2_with fail
    go_ret
    exact ⟨by rw [← e.out]; rfl, rfl⟩

/-- The two words of a product. -/
theorem mul64_words (x y hi lo : Int) (x0 : 0 ≤ x) (hx : x < 18446744073709551616) (y0 : 0 ≤ y) (hy : y < 18446744073709551616) (hi0 : 0 ≤ hi) (lo0 : 0 ≤ lo) (hlo : lo < 18446744073709551616)
    (h : x * y = hi * 18446744073709551616 + lo) (w : World) :
    Calls Try.prog 117 #[.int .u64 x, .int .u64 y] w fun e w' => e = .returned (.tuple #[.int .u64 hi, .int .u64 lo]) ∧ w = w' := by
  obtain ⟨a, rfl⟩ := Int.eq_ofNat_of_zero_le x0
  obtain ⟨b, rfl⟩ := Int.eq_ofNat_of_zero_le y0
  refine (Try.bits_Mul64 a b (by omega) (by omega) w).mono fun e w' ⟨he, hw⟩ => ⟨?_, hw.symm⟩
  rw [← Int.natCast_mul] at h
  rw [he, show ((a * b / 18446744073709551616 : Nat) : Int) = hi from by omega, show ((a * b % 18446744073709551616 : Nat) : Int) = lo from by omega]

/-- Two numbers come back. -/
def TwoPost (v c : Int) (w : World) (e : Ending) (w' : World) : Prop := e = .returned (.tuple #[.int .i64 v, .int .i64 c]) ∧ Below w.heap.size w w'

theorem words_of (N : Int) (h : 0 ≤ N) : ∃ hi lo : Int, 0 ≤ hi ∧ 0 ≤ lo ∧ lo < 18446744073709551616 ∧ N = hi * 18446744073709551616 + lo := ⟨N / 18446744073709551616, N % 18446744073709551616, by omega, by omega, by omega, by omega⟩

set_option maxHeartbeats 1000000 in
theorem ratio_no (x y : Int) (neg : Bool) (x0 : 0 ≤ x) (hx : x ≤ 999999999999999999) (y0 : 0 ≤ y) (hy : y ≤ 999999999999999999) (h : 999999999999999999 < x * y / 1000000) (w : World) :
    Calls Try.prog 67 #[.int .u64 x, .int .u64 y, .int .u64 1000000, .bool neg] w (TwoPost 0 7 w) := by
  obtain ⟨hi, lo, hi0, lo0, hlo, hw⟩ := words_of (x * y) (Int.mul_nonneg x0 y0)
  have H := Lib.hid h
  have HW := Lib.hid hw
  clear h hw
  by_cases hh : 1000000 ≤ hi
  · go_enter Try.func67, Try.ntmps67
    go_wp2_with fail
    refine (mul64_words x y hi lo x0 (by omega) y0 (by omega) hi0 lo0 hlo HW.out w).mono ?_
    rintro e w1 ⟨rfl, rfl⟩
    go_wp2_with fail
    go_ret2
    exact ⟨rfl, Below.refl _ _⟩
  · obtain ⟨q, hq⟩ : ∃ q : Int, q = (hi * 18446744073709551616 + lo) / 1000000 := ⟨_, rfl⟩
    have hq1 : 999999999999999999 < q := by have h1 := H.out; rw [HW.out] at h1; omega
    have hq2 : q < 18446744073709551616 := by omega
    have HQ := Lib.hid hq
    clear hq
    go_enter Try.func67, Try.ntmps67
    go_wp2_with fail
    refine (mul64_words x y hi lo x0 (by omega) y0 (by omega) hi0 lo0 hlo HW.out w).mono ?_
    rintro e w1 ⟨rfl, rfl⟩
    go_wp2_with fail
    refine (div64_million hi lo (by omega) (by omega) (by omega) (by omega) w).mono ?_
    rw [← HQ.out]
    rintro e w1 ⟨r, rfl, hb⟩
    go_wp2_with fail
    go_ret2
    exact ⟨rfl, hb⟩

set_option maxHeartbeats 1000000 in
theorem ratio_ok (x y : Int) (neg : Bool) (v : Int) (x0 : 0 ≤ x) (hx : x ≤ 999999999999999999) (y0 : 0 ≤ y) (hy : y ≤ 999999999999999999) (h : x * y / 1000000 ≤ 999999999999999999)
    (hv : v = if neg then -(x * y / 1000000) else x * y / 1000000) (w : World) :
    Calls Try.prog 67 #[.int .u64 x, .int .u64 y, .int .u64 1000000, .bool neg] w (TwoPost v 0 w) := by
  obtain ⟨hi, lo, hi0, lo0, hlo, hw⟩ := words_of (x * y) (Int.mul_nonneg x0 y0)
  rw [hw] at h hv
  have hh : hi < 1000000 := by omega
  obtain ⟨q, hq⟩ : ∃ q : Int, q = (hi * 18446744073709551616 + lo) / 1000000 := ⟨_, rfl⟩
  have hq0 : 0 ≤ q := by omega
  have hq1 : q ≤ 999999999999999999 := by omega
  rw [← hq] at hv
  have HQ := Lib.hid hq
  have HV := Lib.hid hv
  have HW := Lib.hid hw
  clear h hw hq hv
  cases neg
  all_goals
    go_enter Try.func67, Try.ntmps67
    go_wp2_with fail
    refine (mul64_words x y hi lo x0 (by omega) y0 (by omega) hi0 lo0 hlo HW.out w).mono ?_
    rintro e w1 ⟨rfl, rfl⟩
    go_wp2_with fail
    refine (div64_million hi lo (by omega) (by omega) (by omega) (by omega) w).mono ?_
    rw [← HQ.out]
    rintro e w1 ⟨r, rfl, hb⟩
    go_wp2_with fail
    go_ret2
    exact ⟨by rw [HV.out]; rfl, hb⟩

/-- A number and its size. -/
theorem size_of (n : Int) (h : IsNum n) : ∃ x : Nat, n.natAbs = x ∧ (x : Int) ≤ 999999999999999999 := ⟨n.natAbs, rfl, by have := h.1; have := h.2; omega⟩

theorem tdiv_signs (a b : Int) (x y : Nat) (hx : a.natAbs = x) (hy : b.natAbs = y) :
    (a * b).tdiv 1000000 = if (decide (a < 0) != decide (b < 0)) then -((x : Int) * y / 1000000) else (x : Int) * y / 1000000 := by
  have key : ∀ n : Nat, ((n : Int)).tdiv 1000000 = (n : Int) / 1000000 := fun n => by rw [Int.tdiv_eq_ediv_of_nonneg (by omega)]
  rcases Int.lt_or_le a 0 with ha | ha <;> rcases Int.lt_or_le b 0 with hb | hb
  · have e1 : a = -(x : Int) := by omega
    have e2 : b = -(y : Int) := by omega
    have d1 : decide (a < 0) = true := by simpa using ha
    have d2 : decide (b < 0) = true := by simpa using hb
    rw [d1, d2, e1, e2, Int.neg_mul_neg, ← Int.natCast_mul, key]
    simp
  · have e1 : a = -(x : Int) := by omega
    have e2 : b = (y : Int) := by omega
    have d1 : decide (a < 0) = true := by simpa using ha
    have d2 : decide (b < 0) = false := by simpa using hb
    rw [d1, d2, e1, e2, Int.neg_mul, Int.neg_tdiv, ← Int.natCast_mul, key]
    simp
  · have e1 : a = (x : Int) := by omega
    have e2 : b = -(y : Int) := by omega
    have d1 : decide (a < 0) = false := by simpa using ha
    have d2 : decide (b < 0) = true := by simpa using hb
    rw [d1, d2, e1, e2, Int.mul_neg, Int.neg_tdiv, ← Int.natCast_mul, key]
    simp
  · have e1 : a = (x : Int) := by omega
    have e2 : b = (y : Int) := by omega
    have d1 : decide (a < 0) = false := by simpa using ha
    have d2 : decide (b < 0) = false := by simpa using hb
    rw [d1, d2, e1, e2, ← Int.natCast_mul, key]
    simp

set_option maxHeartbeats 1000000 in
theorem mulNum_ok (a b v : Int) (ha : IsNum a) (hb : IsNum b) (hv : (a * b).tdiv 1000000 = v) (hn : IsNum v) (w : World) :
    Calls Try.prog 21 #[.int .i64 a, .int .i64 b] w (TwoPost v 0 w) := by
  obtain ⟨x, hx, x1⟩ := size_of a ha
  obtain ⟨y, hy, y1⟩ := size_of b hb
  have ht := tdiv_signs a b x y hx hy
  rw [hv] at ht
  have hle : (x : Int) * y / 1000000 ≤ 999999999999999999 := by
    have n1 := hn.1; have n2 := hn.2
    split at ht <;> omega
  have HT := Lib.hid ht
  have HX := Lib.hid hx
  have HY := Lib.hid hy
  have HL := Lib.hid hle
  clear ht hx hy hle hv hn
  go_enter Try.func21, Try.ntmps21
  go_wp2_with fail
  refine (operands_ok _ _ _ ha hb (.inl rfl) _).mono ?_
  rintro e w1 ⟨rfl, rfl⟩
  go_wp2_with fail
  refine (magnitude_any a x ha HX.out _).mono ?_
  rintro e w1 ⟨rfl, rfl⟩
  go_wp2_with fail
  refine (magnitude_any b y hb HY.out _).mono ?_
  rintro e w1 ⟨rfl, rfl⟩
  go_wp2_with fail
  refine (ratio_ok x y _ v (by omega) x1 (by omega) y1 HL.out HT.out _).mono ?_
  rintro e w1 ⟨rfl, hb1⟩
  go_wp2_with fail
  go_ret2
  exact ⟨rfl, hb1⟩

set_option maxHeartbeats 1000000 in
theorem mulNum_no (a b : Int) (ha : IsNum a) (hb : IsNum b) (hn : ¬ IsNum ((a * b).tdiv 1000000)) (w : World) :
    Calls Try.prog 21 #[.int .i64 a, .int .i64 b] w (TwoPost 0 7 w) := by
  obtain ⟨x, hx, x1⟩ := size_of a ha
  obtain ⟨y, hy, y1⟩ := size_of b hb
  have ht := tdiv_signs a b x y hx hy
  have hp : 0 ≤ (x : Int) * y := Int.mul_nonneg (by omega) (by omega)
  have hle : 999999999999999999 < (x : Int) * y / 1000000 := by
    unfold IsNum at hn
    rw [ht] at hn
    split at hn <;> omega
  have HX := Lib.hid hx
  have HY := Lib.hid hy
  have HL := Lib.hid hle
  clear ht hx hy hle hn hp
  go_enter Try.func21, Try.ntmps21
  go_wp2_with fail
  refine (operands_ok _ _ _ ha hb (.inl rfl) _).mono ?_
  rintro e w1 ⟨rfl, rfl⟩
  go_wp2_with fail
  refine (magnitude_any a x ha HX.out _).mono ?_
  rintro e w1 ⟨rfl, rfl⟩
  go_wp2_with fail
  refine (magnitude_any b y hb HY.out _).mono ?_
  rintro e w1 ⟨rfl, rfl⟩
  go_wp2_with fail
  refine (ratio_no x y _ (by omega) x1 (by omega) y1 HL.out _).mono ?_
  rintro e w1 ⟨rfl, hb1⟩
  go_wp2_with fail
  go_ret2
  exact ⟨rfl, hb1⟩
end Go.Proofs.Ytajchbafolgcoaa
