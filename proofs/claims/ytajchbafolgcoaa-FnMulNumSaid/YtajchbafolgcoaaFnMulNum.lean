/- The walk of the law FnMulNum. -/
import Derived.Test.YtajchbafolgcoaaMul
import Derived.Test.YtajchbafolgcoaaAt
namespace Go.Proofs.Ytajchbafolgcoaa
open Go.RowKit
set_option linter.unusedVariables false

instance (n : Int) : Decidable (IsNum n) := inferInstanceAs (Decidable (_ ∧ _))

/-- What MulNum returns: the truncated product in millionths, or an error. -/
def mulV (a b : Int) : Int := if IsNum ((a * b).tdiv 1000000) then (a * b).tdiv 1000000 else 0
def mulC (a b : Int) : Int := if IsNum ((a * b).tdiv 1000000) then 0 else 7

theorem mulNum_any (a b v c : Int) (ha : IsNum a) (hb : IsNum b) (hv : mulV a b = v) (hc : mulC a b = c) (w : World) :
    Calls Try.prog 21 #[.int .i64 a, .int .i64 b] w (TwoPost v c w) := by
  unfold mulV at hv
  unfold mulC at hc
  by_cases h : IsNum ((a * b).tdiv 1000000)
  · rw [if_pos h] at hv hc
    subst hc
    exact mulNum_ok a b v ha hb hv (hv ▸ h) w
  · rw [if_neg h] at hv hc
    subst hv hc
    exact mulNum_no a b ha hb h w

theorem isNum_neg {n : Int} (h : IsNum n) : IsNum (-n) := ⟨by have := h.2; omega, by have := h.1; omega⟩
theorem isNum_neg_iff (n : Int) : IsNum (-n) ↔ IsNum n := ⟨fun h => by have := isNum_neg h; rwa [Int.neg_neg] at this, isNum_neg⟩
theorem mulV_comm (a b : Int) : mulV b a = mulV a b := by unfold mulV; rw [Int.mul_comm b a]
theorem mulC_comm (a b : Int) : mulC b a = mulC a b := by unfold mulC; rw [Int.mul_comm b a]
theorem mulV_whole (a k : Int) (h : IsNum (a * k)) : mulV a (k * 1000000) = a * k := by
  unfold mulV
  rw [← Int.mul_assoc, Int.mul_tdiv_cancel _ (by omega), if_pos h]
theorem mulC_whole (a k : Int) (h : IsNum (a * k)) : mulC a (k * 1000000) = 0 := by
  unfold mulC
  rw [← Int.mul_assoc, Int.mul_tdiv_cancel _ (by omega), if_pos h]
theorem mulV_neg (a b : Int) : mulV (-a) b = -mulV a b := by
  unfold mulV
  rw [Int.neg_mul, Int.neg_tdiv]
  by_cases h : IsNum ((a * b).tdiv 1000000)
  · rw [if_pos h, if_pos (isNum_neg h)]
  · rw [if_neg h, if_neg (fun k => h ((isNum_neg_iff _).1 k))]; rfl
theorem mulC_neg (a b : Int) : mulC (-a) b = mulC a b := by
  unfold mulC
  rw [Int.neg_mul, Int.neg_tdiv]
  by_cases h : IsNum ((a * b).tdiv 1000000)
  · rw [if_pos h, if_pos (isNum_neg h)]
  · rw [if_neg h, if_neg (fun k => h ((isNum_neg_iff _).1 k))]
theorem mulV_num (a b : Int) : IsNum (mulV a b) := by
  unfold mulV
  split
  · assumption
  · exact ⟨by omega, by omega⟩

/-- What is left of a number behind a million whole ones. -/
theorem small_num (a : Int) (ha : IsNum a) : IsNum (a.tmod 1000000000000) ∧ -1000000000000 < a.tmod 1000000000000 ∧ a.tmod 1000000000000 < 1000000000000 := by
  have h1 := Int.tmod_lt_of_pos a (b := 1000000000000) (by omega)
  have h2 : -1000000000000 < a.tmod 1000000000000 := by
    have := Int.tmod_lt_of_pos (-a) (b := 1000000000000) (by omega)
    rw [Int.neg_tmod] at this
    omega
  exact ⟨⟨by omega, by omega⟩, h2, h1⟩

theorem times_bound (s k : Int) (h1 : -1000000000000 < s) (h2 : s < 1000000000000) (k0 : 0 ≤ k) (k1 : k < 20) : -20000000000000 ≤ s * k ∧ s * k ≤ 20000000000000 := by
  have : k = 0 ∨ k = 1 ∨ k = 2 ∨ k = 3 ∨ k = 4 ∨ k = 5 ∨ k = 6 ∨ k = 7 ∨ k = 8 ∨ k = 9 ∨ k = 10 ∨ k = 11 ∨ k = 12 ∨ k = 13 ∨ k = 14 ∨ k = 15 ∨ k = 16 ∨ k = 17 ∨ k = 18 ∨ k = 19 := by omega
  rcases this with rfl | rfl | rfl | rfl | rfl | rfl | rfl | rfl | rfl | rfl | rfl | rfl | rfl | rfl | rfl | rfl | rfl | rfl | rfl | rfl <;> omega

set_option maxHeartbeats 2000000 in
theorem FnMulNum_walk (a : Option Addr) (len cap : Nat) (w : World) (hb : BytesAt w w.heap.size a len) :
    Calls Try.prog 5 #[.slice a len cap] w fun e w' => e = .returned (.bool true) ∧ Below w.heap.size w w' := by
  by_cases hlen : 1048576 < len
  · go_enter Try.func5, Try.ntmps5
    go_wp2_with fail
    go_ret
    exact ⟨rfl, Below.refl _ _⟩
  go_enter Try.func5, Try.ntmps5
  go_wp2_with fail
  refine (A8Num_any a len cap w (by omega) hb).mono ?_
  rintro e w1 ⟨x, hx, rfl, hb1⟩
  go_wp2_with fail
  refine (a8Mix_any 1 (by omega) (by omega) a len cap w1 (by omega) ((hb.below hb1).more hb1.size)).mono ?_
  rintro e w2 ⟨a2, cap2, rfl, hy2, hb2⟩
  have hb2' := hb1.trans (hb2.mono hb1.size)
  go_wp2_with fail
  refine (A8Num_any a2 (len + 1) cap2 w2 (by omega) hy2).mono ?_
  rintro e w3 ⟨y, hy, rfl, hb3⟩
  have hb3' := hb2'.trans (hb3.mono (Nat.le_trans hb1.size hb2.size))
  clear hb1 hb2 hb2' hb3 hy2
  have x1 := hx.1; have x2 := hx.2; have y1 := hy.1; have y2 := hy.2
  obtain ⟨p, hp⟩ : ∃ p, mulV x y = p := ⟨_, rfl⟩
  obtain ⟨c, hc⟩ : ∃ c, mulC x y = c := ⟨_, rfl⟩
  have hpn : IsNum p := hp ▸ mulV_num x y
  have p1 := hpn.1; have p2 := hpn.2
  have HP := Lib.hid hp
  have HC := Lib.hid hc
  clear hp hc
  obtain ⟨hsn, hs1, hs2⟩ := small_num x hx
  obtain ⟨sm, hsm⟩ : ∃ sm, x.tmod 1000000000000 = sm := ⟨_, rfl⟩
  rw [hsm] at hsn hs1 hs2
  go_wp2_with fail
  refine (mulNum_any x y p c hx hy HP.out HC.out _).mono ?_
  rintro e w4 ⟨rfl, hb4⟩
  have hb4' := hb3'.trans (hb4.mono hb3'.size)
  go_wp2_with fail
  refine (mulNum_any y x p c hy hx (by rw [mulV_comm]; exact HP.out) (by rw [mulC_comm]; exact HC.out) _).mono ?_
  rintro e w5 ⟨rfl, hb5⟩
  have hb5' := hb4'.trans (hb5.mono hb4'.size)
  go_wp2_with fail
  refine (mulNum_any x 1000000 x 0 hx ⟨by omega, by omega⟩ (by have := mulV_whole x 1 (by rw [Int.mul_one]; exact hx); simpa using this) (by have := mulC_whole x 1 (by rw [Int.mul_one]; exact hx); simpa using this) _).mono ?_
  rintro e w6 ⟨rfl, hb6⟩
  have hb6' := hb5'.trans (hb6.mono hb5'.size)
  go_wp2_with fail
  refine (mulNum_any x (-1000000) (-x) 0 hx ⟨by omega, by omega⟩ (by have := mulV_whole x (-1) (by rw [Int.mul_neg, Int.mul_one]; exact isNum_neg hx); simpa using this) (by have := mulC_whole x (-1) (by rw [Int.mul_neg, Int.mul_one]; exact isNum_neg hx); simpa using this) _).mono ?_
  rintro e w7 ⟨rfl, hb7⟩
  have hb7' := hb6'.trans (hb7.mono hb6'.size)
  clear hb4 hb4' hb5 hb5' hb6 hb6' hb7
  go_wp2_with fail
  refine (a8At_any 2 20 a len cap w7 (by omega) (by omega) (by omega) (by omega) ((hb.below hb7').more hb7'.size)).mono ?_
  rintro e w8 ⟨k, k0, k1, rfl, hb8⟩
  have hb8' := hb7'.trans (hb8.mono hb7'.size)
  clear hb7' hb8
  obtain ⟨t1, t2⟩ := times_bound sm k hs1 hs2 k0 k1
  have htn : IsNum (sm * k) := ⟨by omega, by omega⟩
  obtain ⟨t, ht⟩ : ∃ t, sm * k = t := ⟨_, rfl⟩
  rw [ht] at t1 t2 htn
  have HT := Lib.hid ht
  clear ht
  go_wp2_with fail
  refine (mulNum_any sm (k * 1000000) t 0 hsn ⟨by omega, by omega⟩ (by rw [mulV_whole sm k (by rw [HT.out]; exact htn)]; exact HT.out) (mulC_whole sm k (by rw [HT.out]; exact htn)) _).mono ?_
  rintro e w9 ⟨rfl, hb9⟩
  have hb9' := hb8'.trans (hb9.mono hb8'.size)
  clear hb8' hb9
  go_wp2_with fail
  refine (mulNum_any (-x) y (-p) c (isNum_neg hx) hy (by rw [mulV_neg, HP.out]) (by rw [mulC_neg]; exact HC.out) _).mono ?_
  rintro e w10 ⟨rfl, hb10⟩
  have hb10' := hb9'.trans (hb10.mono hb9'.size)
  have ht := HT.out
  have z1 : IntKind.i64.wrap (sm * k) = t := by rw [ht]; exact IntWalk.i64_in _ (by omega)
  go_wp2_with fail
  go_ret
  exact ⟨rfl, hb10'⟩
end Go.Proofs.Ytajchbafolgcoaa
