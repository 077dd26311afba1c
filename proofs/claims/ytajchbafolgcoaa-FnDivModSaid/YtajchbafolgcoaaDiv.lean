/- bits.Div64 at a high word of 0, and at the divisor 1000000. -/
import Derived.Test.YtajchbafolgcoaaArith
import Derived.Test.YtajchbafolgcoaaBits
namespace Go.Proofs.Ytajchbafolgcoaa
open Go.RowKit
set_option linter.unusedVariables false

set_option maxHeartbeats 1000000 in
theorem div64_low (lo y : Int) (h0 : 0 ≤ lo) (h1 : lo < 18446744073709551616) (hy0 : 0 < y) (hy1 : y < 18446744073709551616) (w : World) :
    Calls Try.prog 118 #[.int .u64 0, .int .u64 lo, .int .u64 y] w fun e w' => e = .returned (.tuple #[.int .u64 (lo / y), .int .u64 (lo % y)]) ∧ Below w.heap.size w w' := by
  have k0 : (y == 0) = false := by simp; omega
  have k1 : decide (y ≤ 0) = false := by simp; omega
  go_enter Try.func118, Try.ntmps118
  go_wp2_with fail
  go_quiet (fail)
  go_wp2_with fail
  go_ret2
  exact ⟨rfl, below_drewN (Below.refl _ _) _⟩

theorem lz_million : (64 : Int) - ((Lib.bitLen (1000000 : Int).toNat : Nat) : Int) = 44 := by decide

/-- A multiple of 2^44 and something less, or'ed, are their sum. -/
theorem or_sum (x y : Int) (h0 : 0 ≤ x) (h1 : x < 1048576) (y0 : 0 ≤ y) (y1 : y < 17592186044416) : bits .or .u64 (x * 17592186044416) y = x * 17592186044416 + y := by
  obtain ⟨a, rfl⟩ := Int.eq_ofNat_of_zero_le h0
  obtain ⟨b, rfl⟩ := Int.eq_ofNat_of_zero_le y0
  have ha : a < 1048576 := by omega
  have hb : b < 2 ^ 44 := by omega
  have e1 : ((a : Int) * 17592186044416) = ((a * 17592186044416 : Nat) : Int) := by omega
  rw [e1, u64_or_nat _ _ (by omega) (by omega)]
  have e2 : a * 17592186044416 ||| b = a * 17592186044416 + b := by
    have := Nat.two_pow_add_eq_or_of_lt hb a
    rw [show (2 ^ 44 : Nat) = 17592186044416 from rfl] at this
    rw [Nat.mul_comm a, ← this]
  rw [e2]
  omega

theorem and_low (x : Int) (h0 : 0 ≤ x) (h1 : x < 4294967296) : bits .and .u64 (x * 4294967296) 4294967295 = 0 := by
  obtain ⟨a, rfl⟩ := Int.eq_ofNat_of_zero_le h0
  have e1 : ((a : Int) * 4294967296) = ((a * 4294967296 : Nat) : Int) := by omega
  have e2 : (4294967295 : Int) = ((4294967295 : Nat) : Int) := rfl
  rw [e1, e2, u64_and_nat _ _ (by omega) (by omega)]
  have : a * 4294967296 &&& 4294967295 = 0 := by
    have h := Nat.and_two_pow_sub_one_eq_mod (a * 4294967296) 32
    rw [show (2 ^ 32 - 1 : Nat) = 4294967295 from rfl] at h
    rw [h]
    omega
  rw [this]
  rfl

/-- The quotient comes back, and some rest. -/
def DivPost (q : Int) (w : World) (e : Ending) (w' : World) : Prop := ∃ r : Int, e = .returned (.tuple #[.int .u64 q, .int .u64 r]) ∧ Below w.heap.size w w'

set_option maxRecDepth 100000 in
set_option maxHeartbeats 2000000 in
theorem div64_core (hi lo U V X : Int) (h0 : 0 < hi) (h1 : hi < 1000000) (l0 : 0 ≤ lo) (l1 : lo < 18446744073709551616)
    (eU : bits .or .u64 (hi * 17592186044416) (lo / 1048576) = U) (u0 : 0 ≤ U) (u1 : U < 17592186044416000000)
    (eV : IntKind.u64.wrap (lo * 17592186044416) = V) (v0 : 0 ≤ V) (v1 : V < 18446744073709551616) (eA : bits .and .u64 17592186044416000000 4294967295 = 0) (eM : bits .and .u64 V 4294967295 = 0)
    (eX : IntKind.u64.wrap (IntKind.u64.wrap (IntKind.u64.wrap (U * 4294967296) + V / 4294967296) - IntKind.u64.wrap (U / 4096000000 * 17592186044416000000)) = X) (x0 : 0 ≤ X) (x1 : X < 17592186044416000000) (w : World) :
    Calls Try.prog 118 #[.int .u64 hi, .int .u64 lo, .int .u64 1000000] w (DivPost (U / 4096000000 * 4294967296 + X / 4096000000) w) := by
  have k1 : decide ((1000000 : Int) ≤ hi) = false := by simp; omega
  have k2 : (hi == 0) = false := by simp; omega
  go_enter Try.func118, Try.ntmps118
  go_wp2_with fail
  refine (Try.bits_LeadingZeros64 1000000 w (by omega) (by omega)).mono ?_
  rintro e w1 ⟨rfl, rfl⟩
  rw [lz_million]
  go_wp2_with fail
  refine wp_loop_rounds 1 ?_
  rw [rounds_succ]
  go_wp2_with fail
  refine wp_loop_rounds 1 ?_
  rw [rounds_succ]
  go_wp2_with fail
  go_ret2
  exact ⟨_, rfl, Below.refl _ _⟩

theorem div64_million (hi lo : Int) (h0 : 0 ≤ hi) (h1 : hi < 1000000) (l0 : 0 ≤ lo) (l1 : lo < 18446744073709551616) (w : World) :
    Calls Try.prog 118 #[.int .u64 hi, .int .u64 lo, .int .u64 1000000] w (DivPost ((hi * 18446744073709551616 + lo) / 1000000) w) := by
  rcases Int.lt_or_eq_of_le h0 with hp | rfl
  · have eM : bits .and .u64 (lo % 1048576 * 17592186044416) 4294967295 = 0 := by
      have := and_low (lo % 1048576 * 4096) (by omega) (by omega)
      rwa [show lo % 1048576 * 4096 * 4294967296 = lo % 1048576 * 17592186044416 from by omega] at this
    have c := div64_core hi lo (hi * 17592186044416 + lo / 1048576) (lo % 1048576 * 17592186044416) ((hi * 17592186044416 + lo / 1048576) % 4096000000 * 4294967296 + lo % 1048576 * 4096) hp h1 l0 l1
      (or_sum hi (lo / 1048576) h0 (by omega) (by omega) (by omega)) (by omega) (by omega) (by rw [IntKind.wrap_u64]; omega) (by omega) (by omega) (and_low 4096000000 (by omega) (by omega)) eM
      (by simp only [IntKind.wrap_u64]; omega) (by omega) (by omega) w
    refine c.mono fun e w' h => ?_
    have e : (hi * 17592186044416 + lo / 1048576) / 4096000000 * 4294967296 + ((hi * 17592186044416 + lo / 1048576) % 4096000000 * 4294967296 + lo % 1048576 * 4096) / 4096000000 = (hi * 18446744073709551616 + lo) / 1000000 := by
      omega
    rw [← e]
    exact h
  · refine (div64_low lo 1000000 l0 l1 (by omega) (by omega) w).mono fun e w' h => ?_
    rw [Int.zero_mul, Int.zero_add]
    exact ⟨_, h.1, h.2⟩
end Go.Proofs.Ytajchbafolgcoaa
