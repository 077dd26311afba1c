/- Contracts of ModNum, IntDiv, DivNum. -/
import Derived.Test.YtajchbafolgcoaaMul
namespace Go.Proofs.Ytajchbafolgcoaa
open Go.RowKit
set_option linter.unusedVariables false

/-- A remainder: it differs from a by a multiple of b, and lies between 0 and b. -/
def IsMod (a b m : Int) : Prop := (a - m).tmod b = 0 ∧ (m = 0 ∨ (0 < m ∧ m < b) ∨ (b < m ∧ m < 0))

theorem tmod_bounds (a b : Int) (hb : b ≠ 0) : a.tmod b < b.natAbs ∧ -(b.natAbs : Int) < a.tmod b := by
  have h1 : a.tmod b = a.tmod b.natAbs := by
    rcases Int.lt_or_le b 0 with h | h
    · rw [show b = -(b.natAbs : Int) from by omega, Int.tmod_neg]; congr 1; omega
    · congr 1; omega
  have h2 := Int.tmod_lt_of_pos a (b := (b.natAbs : Int)) (by omega)
  have h3 := Int.tmod_lt_of_pos (-a) (b := (b.natAbs : Int)) (by omega)
  rw [Int.neg_tmod] at h3
  rw [h1]
  omega

theorem sub_tmod_self (a b : Int) : (a - a.tmod b).tmod b = 0 := by
  have h := Int.mul_tdiv_add_tmod a b
  rw [show a - a.tmod b = b * a.tdiv b from by omega]
  exact Int.mul_tmod_right _ _
theorem sub_tmod_add (a b : Int) : (a - (a.tmod b + b)).tmod b = 0 := by
  have h := Int.mul_tdiv_add_tmod a b
  have e : a - (a.tmod b + b) = b * (a.tdiv b - 1) := by rw [Int.mul_sub, Int.mul_one]; omega
  rw [e]
  exact Int.mul_tmod_right _ _

def ModPost (a b : Int) (w : World) (e : Ending) (w' : World) : Prop := ∃ m : Int, IsMod a b m ∧ e = .returned (.tuple #[.int .i64 m, .int .i64 0]) ∧ w = w'

set_option maxHeartbeats 2000000 in
theorem modNum_core (a b t : Int) (ha : IsNum a) (hb : IsNum b) (h0 : b ≠ 0) (ht : a.tmod b = t) (w : World) :
    Calls Try.prog 23 #[.int .i64 a, .int .i64 b] w (ModPost a b w) := by
  have b1 := ha.1; have b2 := ha.2; have b3 := hb.1; have b4 := hb.2
  obtain ⟨t1, t2⟩ := tmod_bounds a b h0
  have s1 := Lib.hid (sub_tmod_self a b)
  have s2 := Lib.hid (sub_tmod_add a b)
  rw [ht] at t1 t2 s1 s2
  have hz : (b == 0) = false := by simp [h0]
  have hop := operands_ok a b true ha hb (.inr h0)
  have HOP := Lib.hid hop
  clear hop
  rcases Int.lt_or_le b 0 with hs | hs
  · have n1 : (b.natAbs : Int) = -b := by omega
    rw [n1] at t1 t2
    clear n1
    by_cases hp : t = 0
    · subst hp
      go_enter Try.func23, Try.ntmps23
      go_wp2_with fail
      refine (HOP.out _).mono ?_
      rintro e w1 ⟨rfl, rfl⟩
      go_wp2_with fail
      go_ret2
      exact ⟨0, ⟨s1.out, .inl rfl⟩, rfl, rfl⟩
    have hp' : (t != 0) = true := by simp [hp]
    by_cases hq : t < 0
    · go_enter Try.func23, Try.ntmps23
      go_wp2_with fail
      refine (HOP.out _).mono ?_
      rintro e w1 ⟨rfl, rfl⟩
      go_wp2_with fail
      go_ret2
      exact ⟨t, ⟨s1.out, .inr (.inr ⟨by omega, by omega⟩)⟩, rfl, rfl⟩
    · have hq' : decide (t < 0) = false := by simp; omega
      have hq2 : 0 < t := by omega
      go_enter Try.func23, Try.ntmps23
      go_wp2_with fail
      refine (HOP.out _).mono ?_
      rintro e w1 ⟨rfl, rfl⟩
      go_wp2_with fail
      go_ret2
      exact ⟨t + b, ⟨s2.out, .inr (.inr ⟨by omega, by omega⟩)⟩, rfl, rfl⟩
  · have n1 : (b.natAbs : Int) = b := by omega
    rw [n1] at t1 t2
    clear n1
    have hs' : decide (b < 0) = false := by simp; omega
    by_cases hp : t = 0
    · subst hp
      go_enter Try.func23, Try.ntmps23
      go_wp2_with fail
      refine (HOP.out _).mono ?_
      rintro e w1 ⟨rfl, rfl⟩
      go_wp2_with fail
      go_ret2
      exact ⟨0, ⟨s1.out, .inl rfl⟩, rfl, rfl⟩
    have hp' : (t != 0) = true := by simp [hp]
    by_cases hq : t < 0
    · go_enter Try.func23, Try.ntmps23
      go_wp2_with fail
      refine (HOP.out _).mono ?_
      rintro e w1 ⟨rfl, rfl⟩
      go_wp2_with fail
      go_ret2
      exact ⟨t + b, ⟨s2.out, .inr (.inl ⟨by omega, by omega⟩)⟩, rfl, rfl⟩
    · have hq' : decide (t < 0) = false := by simp; omega
      have hq2 : 0 < t := by omega
      go_enter Try.func23, Try.ntmps23
      go_wp2_with fail
      refine (HOP.out _).mono ?_
      rintro e w1 ⟨rfl, rfl⟩
      go_wp2_with fail
      go_ret2
      exact ⟨t, ⟨s1.out, .inr (.inl ⟨by omega, by omega⟩)⟩, rfl, rfl⟩

theorem modNum_zero (a : Int) (ha : IsNum a) (w : World) :
    Calls Try.prog 23 #[.int .i64 a, .int .i64 0] w fun e w' => e = .returned (.tuple #[.int .i64 0, .int .i64 8]) ∧ w = w' := by
  go_enter Try.func23, Try.ntmps23
  go_wp2_with fail
  refine (operands_zero a ha _).mono ?_
  rintro e w1 ⟨rfl, rfl⟩
  go_wp2_with fail
  go_ret2
  exact ⟨rfl, rfl⟩

theorem tdiv_num (a b : Int) (ha : IsNum a) (hb : b ≠ 0) : IsNum (a.tdiv b) := by
  have h : (a.tdiv b).natAbs ≤ a.natAbs := by
    rw [Int.natAbs_tdiv]; exact Nat.div_le_self _ _
  have := ha.1; have := ha.2
  exact ⟨by omega, by omega⟩

theorem intDiv_zero (a : Int) (ha : IsNum a) (w : World) :
    Calls Try.prog 24 #[.int .i64 a, .int .i64 0] w fun e w' => e = .returned (.tuple #[.int .i64 0, .int .i64 8]) ∧ w = w' := by
  go_enter Try.func24, Try.ntmps24
  go_wp2_with fail
  refine (operands_zero a ha _).mono ?_
  rintro e w1 ⟨rfl, rfl⟩
  go_wp2_with fail
  go_ret2
  exact ⟨rfl, rfl⟩

set_option maxHeartbeats 1000000 in
theorem intDiv_ok (a b q : Int) (ha : IsNum a) (hb : IsNum b) (h0 : b ≠ 0) (hq : a.tdiv b = q) (h1 : -999999999999 ≤ q) (h2 : q ≤ 999999999999) (w : World) :
    Calls Try.prog 24 #[.int .i64 a, .int .i64 b] w fun e w' => e = .returned (.tuple #[.int .i64 (q * 1000000), .int .i64 0]) ∧ w = w' := by
  have b1 := ha.1; have b2 := ha.2; have b3 := hb.1; have b4 := hb.2
  have hz : (b == 0) = false := by simp [h0]
  have HOP := Lib.hid (operands_ok a b true ha hb (.inr h0))
  obtain ⟨x, hx, x1⟩ := size_of q ⟨by omega, by omega⟩
  have HX := Lib.hid hx
  have x2 : (x : Int) ≤ 999999999999 := by omega
  clear hx
  go_enter Try.func24, Try.ntmps24
  go_wp2_with fail
  refine (HOP.out _).mono ?_
  rintro e w1 ⟨rfl, rfl⟩
  go_wp2_with fail
  refine (magnitude_any q x ⟨by omega, by omega⟩ HX.out _).mono ?_
  rintro e w1 ⟨rfl, rfl⟩
  go_wp2_with fail
  go_ret2
  exact ⟨rfl, rfl⟩

set_option maxHeartbeats 1000000 in
theorem intDiv_no (a b q : Int) (ha : IsNum a) (hb : IsNum b) (h0 : b ≠ 0) (hq : a.tdiv b = q) (h1 : q < -999999999999 ∨ 999999999999 < q) (w : World) :
    Calls Try.prog 24 #[.int .i64 a, .int .i64 b] w fun e w' => e = .returned (.tuple #[.int .i64 0, .int .i64 7]) ∧ w = w' := by
  have b1 := ha.1; have b2 := ha.2; have b3 := hb.1; have b4 := hb.2
  have hqn := tdiv_num a b ha h0
  rw [hq] at hqn
  have c1 := hqn.1; have c2 := hqn.2
  have hz : (b == 0) = false := by simp [h0]
  have HOP := Lib.hid (operands_ok a b true ha hb (.inr h0))
  obtain ⟨x, hx, x1⟩ := size_of q hqn
  have HX := Lib.hid hx
  have x2 : 999999999999 < (x : Int) := by omega
  clear hx h1
  go_enter Try.func24, Try.ntmps24
  go_wp2_with fail
  refine (HOP.out _).mono ?_
  rintro e w1 ⟨rfl, rfl⟩
  go_wp2_with fail
  refine (magnitude_any q x hqn HX.out _).mono ?_
  rintro e w1 ⟨rfl, rfl⟩
  go_wp2_with fail
  go_ret2
  exact ⟨rfl, rfl⟩

set_option maxHeartbeats 1000000 in
/-- A ratio whose product fits one word. -/
theorem ratio_low (x y c N q : Int) (neg : Bool) (v : Int) (x0 : 0 ≤ x) (hx : x < 18446744073709551616) (y0 : 0 ≤ y) (hy : y < 18446744073709551616) (hN : x * y = N) (n0 : 0 ≤ N) (n1 : N < 18446744073709551616)
    (c0 : 0 < c) (c1 : c < 18446744073709551616) (hq : N / c = q) (q0 : 0 ≤ q) (q1 : q ≤ 999999999999999999) (hv : v = if neg then -q else q) (w : World) :
    Calls Try.prog 67 #[.int .u64 x, .int .u64 y, .int .u64 c, .bool neg] w (TwoPost v 0 w) := by
  have HN := Lib.hid hN
  have HQ := Lib.hid hq
  have HV := Lib.hid hv
  clear hN hq hv
  cases neg
  all_goals
    go_enter Try.func67, Try.ntmps67
    go_wp2_with fail
    refine (mul64_words x y 0 N x0 hx y0 hy (by omega) n0 n1 (by rw [HN.out]; omega) w).mono ?_
    rintro e w1 ⟨rfl, rfl⟩
    go_wp2_with fail
    refine (div64_low N c n0 n1 c0 c1 w).mono ?_
    rw [HQ.out]
    rintro e w1 ⟨rfl, hb⟩
    go_wp2_with fail
    go_ret2
    exact ⟨by rw [HV.out]; rfl, hb⟩

theorem divNum_zero (a : Int) (ha : IsNum a) (w : World) :
    Calls Try.prog 25 #[.int .i64 a, .int .i64 0] w fun e w' => e = .returned (.tuple #[.int .i64 0, .int .i64 8]) ∧ w = w' := by
  go_enter Try.func25, Try.ntmps25
  go_wp2_with fail
  refine (operands_zero a ha _).mono ?_
  rintro e w1 ⟨rfl, rfl⟩
  go_wp2_with fail
  go_ret2
  exact ⟨rfl, rfl⟩

set_option maxHeartbeats 1000000 in
theorem divNum_low (a b v : Int) (x y : Nat) (hx : a.natAbs = x) (hy : b.natAbs = y) (ha : IsNum a) (hb : IsNum b) (h0 : b ≠ 0) (x1 : (x : Int) ≤ 18446744073709)
    (hq1 : (x : Int) * 1000000 / y ≤ 999999999999999999) (hv : v = if (decide (a < 0) != decide (b < 0)) then -((x : Int) * 1000000 / y) else (x : Int) * 1000000 / y) (w : World) :
    Calls Try.prog 25 #[.int .i64 a, .int .i64 b] w (TwoPost v 0 w) := by
  have b3 := hb.1; have b4 := hb.2
  have hz : (b == 0) = false := by simp [h0]
  have HOP := Lib.hid (operands_ok a b true ha hb (.inr h0))
  have y1 : 0 < (y : Int) := by omega
  have y2 : (y : Int) < 18446744073709551616 := by omega
  have HX := Lib.hid hx
  have HY := Lib.hid hy
  have HV := Lib.hid hv
  have HQ := Lib.hid hq1
  clear hx hy hv hq1
  go_enter Try.func25, Try.ntmps25
  go_wp2_with fail
  refine (HOP.out _).mono ?_
  rintro e w1 ⟨rfl, rfl⟩
  go_wp2_with fail
  refine (magnitude_any a x ha HX.out _).mono ?_
  rintro e w1 ⟨rfl, rfl⟩
  go_wp2_with fail
  refine (magnitude_any b y hb HY.out _).mono ?_
  rintro e w1 ⟨rfl, rfl⟩
  go_wp2_with fail
  refine (ratio_low x 1000000 y ((x : Int) * 1000000) ((x : Int) * 1000000 / y) _ v (by omega) (by omega) (by omega) (by omega) rfl (by omega) (by omega) y1 y2 rfl (Int.ediv_nonneg (by omega) (by omega)) HQ.out HV.out _).mono ?_
  rintro e w1 ⟨rfl, hb1⟩
  go_wp2_with fail
  go_ret2
  exact ⟨rfl, hb1⟩
end Go.Proofs.Ytajchbafolgcoaa
