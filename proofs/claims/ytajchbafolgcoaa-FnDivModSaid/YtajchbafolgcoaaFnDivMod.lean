/- The walk of the law FnDivMod. -/
import Derived.Test.YtajchbafolgcoaaDivNum
import Derived.Test.YtajchbafolgcoaaAt
namespace Go.Proofs.Ytajchbafolgcoaa
open Go.RowKit
set_option linter.unusedVariables false

/-- The rest of the law: from the remainder of the divisor on. -/
theorem small9 (b : Int) : -1000000000 < b.tmod 1000000000 ∧ b.tmod 1000000000 < 1000000000 := by
  have h1 := Int.tmod_lt_of_pos b (b := 1000000000) (by omega)
  have h3 := Int.tmod_lt_of_pos (-b) (b := 1000000000) (by omega)
  rw [Int.neg_tmod] at h3
  omega

theorem div_back (s k : Int) (hs : s ≠ 0) : ((s * k).natAbs : Int) * 1000000 / s.natAbs = k.natAbs * 1000000 := by
  rw [Int.natAbs_mul, Int.natCast_mul]
  have : (s.natAbs : Int) * (k.natAbs : Int) * 1000000 = (k.natAbs : Int) * 1000000 * s.natAbs := by
    rw [Int.mul_comm (s.natAbs : Int), Int.mul_assoc, Int.mul_assoc, Int.mul_comm (s.natAbs : Int)]
  rw [this]
  exact Int.mul_ediv_cancel _ (by omega)

theorem sign_back (s k : Int) (hs : s ≠ 0) : k * 1000000 = if (decide (s * k < 0) != decide (s < 0)) then -((k.natAbs : Int) * 1000000) else (k.natAbs : Int) * 1000000 := by
  rcases Int.lt_or_lt_of_ne hs with h | h
  · rcases Int.lt_or_le k 0 with hk | hk
    · have h2 : 0 < s * k := Int.mul_pos_of_neg_of_neg h hk
      have d1 : decide (s * k < 0) = false := by simp; omega
      have d2 : decide (s < 0) = true := by simpa using h
      rw [d1, d2]; simp; omega
    · rcases Int.lt_or_eq_of_le hk with hk | rfl
      · have h2 : s * k < 0 := Int.mul_neg_of_neg_of_pos h hk
        have d1 : decide (s * k < 0) = true := by simpa using h2
        have d2 : decide (s < 0) = true := by simpa using h
        rw [d1, d2]; simp; omega
      · simp
  · rcases Int.lt_or_le k 0 with hk | hk
    · have h2 : s * k < 0 := Int.mul_neg_of_pos_of_neg h hk
      have d1 : decide (s * k < 0) = true := by simpa using h2
      have d2 : decide (s < 0) = false := by simp; omega
      rw [d1, d2]; simp; omega
    · have h2 : 0 ≤ s * k := Int.mul_nonneg (by omega) hk
      have d1 : decide (s * k < 0) = false := by simp; omega
      have d2 : decide (s < 0) = false := by simp; omega
      rw [d1, d2]; simp; omega

theorem prod_abs (s k : Int) (h1 : -1000000000 < s) (h2 : s < 1000000000) (k0 : -20 ≤ k) (k1 : k < 20) : (s * k).natAbs ≤ 20000000000 := by
  rw [Int.natAbs_mul]
  exact Nat.le_trans (Nat.mul_le_mul (show s.natAbs ≤ 1000000000 from by omega) (show k.natAbs ≤ 20 from by omega)) (by omega)

/-- The quotient of a product comes back. -/
theorem divNum_back (s k : Int) (hs : s ≠ 0) (h1 : -1000000000 < s) (h2 : s < 1000000000) (k0 : -20 ≤ k) (k1 : k < 20) (w : World) :
    Calls Try.prog 25 #[.int .i64 (s * k), .int .i64 s] w (TwoPost (k * 1000000) 0 w) := by
  have hp := prod_abs s k h1 h2 k0 k1
  refine divNum_low (s * k) s (k * 1000000) (s * k).natAbs s.natAbs rfl rfl ⟨by omega, by omega⟩ ⟨by omega, by omega⟩ hs (by omega) ?_ ?_ w
  · rw [div_back s k hs]; omega
  · rw [div_back s k hs]; exact sign_back s k hs

set_option maxHeartbeats 4000000 in
theorem FnDivMod_walk (a : Option Addr) (len cap : Nat) (w : World) (hb : BytesAt w w.heap.size a len) :
    Calls Try.prog 6 #[.slice a len cap] w fun e w' => e = .returned (.bool true) ∧ Below w.heap.size w w' := by
  by_cases hlen : 1048576 < len
  · go_enter Try.func6, Try.ntmps6
    go_wp2_with fail
    go_ret
    exact ⟨rfl, Below.refl _ _⟩
  go_enter Try.func6, Try.ntmps6
  go_wp2_with fail
  refine (A8Num_any a len cap w (by omega) hb).mono ?_
  rintro e w1 ⟨x, hx, rfl, hb1⟩
  go_wp2_with fail
  refine (a8Mix_any 1 (by omega) (by omega) a len cap w1 (by omega) ((hb.below hb1).more hb1.size)).mono ?_
  rintro e w2 ⟨a2, cap2, rfl, hy2, hb2⟩
  have hb2' := hb1.trans (hb2.mono hb1.size)
  go_wp2_with fail
  refine (A8Num_any a2 (len + 1) cap2 w2 (by omega) hy2).mono ?_
  rintro e w3 ⟨y, hy, rfl, hb3⟩
  have hb3' := hb2'.trans (hb3.mono (Nat.le_trans hb1.size hb2.size))
  clear hb1 hb2 hb2' hb3 hy2
  have x1 := hx.1; have x2 := hx.2; have y1 := hy.1; have y2 := hy.2
  by_cases hz : y = 0
  · subst hz
    go_wp2_with fail
    refine (modNum_zero x hx _).mono ?_
    rintro e w4 ⟨rfl, rfl⟩
    go_wp2_with fail
    refine (intDiv_zero x hx _).mono ?_
    rintro e w4 ⟨rfl, rfl⟩
    go_wp2_with fail
    refine (divNum_zero x hx _).mono ?_
    rintro e w4 ⟨rfl, rfl⟩
    go_wp2_with fail
    go_ret
    exact ⟨rfl, hb3'⟩
  have hz' : (y == 0) = false := by simp [hz]
  obtain ⟨q, hq⟩ : ∃ q, x.tdiv y = q := ⟨_, rfl⟩
  have hqn := tdiv_num x y hx hz
  rw [hq] at hqn
  have q1 := hqn.1; have q2 := hqn.2
  obtain ⟨sm, hsm⟩ : ∃ sm, y.tmod 1000000000 = sm := ⟨_, rfl⟩
  obtain ⟨sm1, sm2⟩ := small9 y
  rw [hsm] at sm1 sm2
  go_wp2_with fail
  refine (modNum_core x y _ hx hy hz rfl _).mono ?_
  rintro e w4 ⟨m, ⟨hm1, hm2⟩, rfl, rfl⟩
  have r1 : (q * 1000000).tmod 1000000 = 0 := Int.mul_tmod_left _ _
  have r2 : (q * 1000000).tdiv 1000000 = q := Int.mul_tdiv_cancel _ (by omega)
  have HR1 := Lib.hid r1
  have HR2 := Lib.hid r2
  clear r1 r2
  have hcase : (m = 0 ∧ x.tmod y = 0) ∨ (0 < m ∧ m < y ∧ (m != 0) = true) ∨ (y < m ∧ m < 0 ∧ (m != 0) = true) := by
    rcases hm2 with rfl | ⟨h1, h2⟩ | ⟨h1, h2⟩
    · exact .inl ⟨rfl, by rwa [Int.sub_zero] at hm1⟩
    · exact .inr (.inl ⟨h1, h2, by simp; omega⟩)
    · exact .inr (.inr ⟨h1, h2, by simp; omega⟩)
  clear hm2
  by_cases hqs : -999999999999 ≤ q ∧ q ≤ 999999999999
  · obtain ⟨qs1, qs2⟩ := hqs
    have hi := intDiv_ok x y q hx hy hz hq qs1 qs2
    have HI := Lib.hid hi
    have r1 := HR1.out
    have r2 := HR2.out
    clear hi
    rcases hcase with ⟨rfl, hm0⟩ | ⟨m1, m2, m3⟩ | ⟨m1, m2, m3⟩
    all_goals
      go_wp2_with fail
      refine (HI.out _).mono ?_
      rintro e w5 ⟨rfl, rfl⟩
      go_wp2_with fail
      refine (a8At_any 3 40 a len cap w3 (by omega) (by omega) (by omega) (by omega) ((hb.below hb3').more hb3'.size)).mono ?_
      rintro e w6 ⟨r, k0, k1, rfl, hb6⟩
      have hb6' := hb3'.trans (hb6.mono hb3'.size)
      by_cases hs0 : sm = 0
      · subst hs0
        go_wp2_with fail
        go_ret
        exact ⟨rfl, hb6'⟩
      · obtain ⟨P, hP⟩ : ∃ P, sm * (r - 20) = P := ⟨_, rfl⟩
        have hPb := prod_abs sm (r - 20) sm1 sm2 (by omega) (by omega)
        have hd := divNum_back sm (r - 20) hs0 sm1 sm2 (by omega) (by omega)
        rw [hP] at hPb hd
        have P1 : -20000000000 ≤ P := by omega
        have P2 : P ≤ 20000000000 := by omega
        have HD := Lib.hid hd
        have hs1 : (sm == 0) = false := by simp [hs0]
        clear hPb hd
        go_wp2_with fail
        refine (HD.out _).mono ?_
        rintro e w7 ⟨rfl, hb7⟩
        have hb7' := hb6'.trans (hb7.mono hb6'.size)
        go_wp2_with fail
        go_ret
        exact ⟨rfl, hb7'⟩
  · have hqs' : q < -999999999999 ∨ 999999999999 < q := by omega
    have hi := intDiv_no x y q hx hy hz hq hqs'
    have HI := Lib.hid hi
    clear hi hqs hqs'
    rcases hcase with ⟨rfl, hm0⟩ | ⟨m1, m2, m3⟩ | ⟨m1, m2, m3⟩
    all_goals
      go_wp2_with fail
      refine (HI.out _).mono ?_
      rintro e w5 ⟨rfl, rfl⟩
      go_wp2_with fail
      refine (a8At_any 3 40 a len cap w3 (by omega) (by omega) (by omega) (by omega) ((hb.below hb3').more hb3'.size)).mono ?_
      rintro e w6 ⟨r, k0, k1, rfl, hb6⟩
      have hb6' := hb3'.trans (hb6.mono hb3'.size)
      by_cases hs0 : sm = 0
      · subst hs0
        go_wp2_with fail
        go_ret
        exact ⟨rfl, hb6'⟩
      · obtain ⟨P, hP⟩ : ∃ P, sm * (r - 20) = P := ⟨_, rfl⟩
        have hPb := prod_abs sm (r - 20) sm1 sm2 (by omega) (by omega)
        have hd := divNum_back sm (r - 20) hs0 sm1 sm2 (by omega) (by omega)
        rw [hP] at hPb hd
        have P1 : -20000000000 ≤ P := by omega
        have P2 : P ≤ 20000000000 := by omega
        have HD := Lib.hid hd
        have hs1 : (sm == 0) = false := by simp [hs0]
        clear hPb hd
        go_wp2_with fail
        refine (HD.out _).mono ?_
        rintro e w7 ⟨rfl, hb7⟩
        have hb7' := hb6'.trans (hb7.mono hb6'.size)
        go_wp2_with fail
        go_ret
        exact ⟨rfl, hb7'⟩
end Go.Proofs.Ytajchbafolgcoaa
