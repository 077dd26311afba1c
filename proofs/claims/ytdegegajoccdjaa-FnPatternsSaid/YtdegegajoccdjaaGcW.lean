/- Codes of patterns: the program's inCode and the closure that asks it, walked by hand; a search through codes. -/
import Derived.Test.YtdegegajoccdjaaGaL
import Derived.Test.YtdegegajoccdjaaPatS
import Derived.WalkKit
import Derived.Lib.Walk
import Derived.OwnWalk
import Derived.Lib.Hide
namespace Go.Proofs.Ytdegegajoccdjaa
open Go.RowKit Go.Lib
set_option linter.unusedVariables false
set_option linter.unusedSimpArgs false

def lowI (c : Int) : Bool := decide (97 ≤ c) && decide (c ≤ 122)
def upI (c : Int) : Bool := decide (65 ≤ c) && decide (c ≤ 90)
def digI (c : Int) : Bool := decide (48 ≤ c) && decide (c ≤ 57)
def inCodeI (k c : Int) : Bool :=
  if k = 65 then lowI c || upI c
  else if k = 67 then decide (c < 32) || decide (c = 127)
  else if k = 69 then true
  else if k = 76 then lowI c
  else if k = 78 then digI c
  else if k = 80 then decide (32 ≤ c) && decide (c ≤ 126) && !lowI c && !upI c && !digI c
  else if k = 85 then upI c
  else false
set_option maxHeartbeats 1000000 in
theorem isDigitG_any (c : Int) (w : World) : Calls Try.prog 77 #[.int .u8 c] w fun e w' => e = .returned (.bool (digI c)) ∧ w' = w := by
  by_cases h1 : 48 ≤ c
  · by_cases h2 : c ≤ 57
    · have HR := Lib.hid (show digI c = true by unfold digI; rw [dT h1, dT h2]; rfl)
      go_enter Try.func77, Try.ntmps77
      go_wp2
      go_ret
      exact ⟨by rw [HR.out]; rfl, rfl⟩
    · have HR := Lib.hid (show digI c = false by unfold digI; rw [dF h2, Bool.and_false])
      have q2 : decide (c ≤ 57) = false := dF h2
      go_enter Try.func77, Try.ntmps77
      go_wp2
      go_ret
      exact ⟨by rw [HR.out]; rfl, rfl⟩
  · have HR := Lib.hid (show digI c = false by unfold digI; rw [dF h1, Bool.false_and])
    have q1 : decide (48 ≤ c) = false := dF h1
    go_enter Try.func77, Try.ntmps77
    go_wp2
    go_ret
    exact ⟨by rw [HR.out]; rfl, rfl⟩
set_option maxHeartbeats 4000000 in
theorem inCode_any (k c : Int) (w : World) : Calls Try.prog 70 #[.int .u8 k, .int .u8 c] w fun e w' => e = .returned (.bool (inCodeI k c)) ∧ w' = w := by
  obtain ⟨r, hr⟩ : ∃ r, inCodeI k c = r := ⟨_, rfl⟩
  rw [hr]
  obtain ⟨lo, hlo⟩ : ∃ lo, lowI c = lo := ⟨_, rfl⟩
  obtain ⟨up, hup⟩ : ∃ up, upI c = up := ⟨_, rfl⟩
  obtain ⟨dg, hdg⟩ : ∃ dg, digI c = dg := ⟨_, rfl⟩
  have hd := isDigitG_any c
  rw [hdg] at hd
  unfold inCodeI at hr
  rw [hlo, hup, hdg] at hr
  have core : ∀ (a1 a2 b1 b2 : Bool), decide (97 ≤ c) = a1 → decide (c ≤ 122) = a2 → decide (65 ≤ c) = b1 → decide (c ≤ 90) = b2 → lo = (a1 && a2) → up = (b1 && b2) →
      Calls Try.prog 70 #[.int .u8 k, .int .u8 c] w fun e w' => e = .returned (.bool r) ∧ w' = w := by
    intro a1 a2 b1 b2 q1 q2 q3 q4 e1 e2
    subst e1 e2
    clear hlo hup hdg
    by_cases k1 : k = 65
    · subst k1
      rw [if_pos rfl] at hr
      subst hr
      cases a1 <;> cases a2 <;> cases b1 <;> cases b2 <;> go_enter Try.func70, Try.ntmps70 <;> go_wp2 <;> go_ret <;> exact ⟨rfl, rfl⟩
    by_cases k2 : k = 67
    · subst k2
      rw [if_neg k1, if_pos rfl] at hr
      obtain ⟨x, hx⟩ : ∃ x, decide (c < 32) = x := ⟨_, rfl⟩
      obtain ⟨y, hy⟩ : ∃ y, (c == 127) = y := ⟨_, rfl⟩
      have hy' : decide (c = 127) = y := by rw [← hy]; rfl
      rw [hx, hy'] at hr
      subst hr
      clear hy'
      cases a1 <;> cases a2 <;> cases b1 <;> cases b2 <;> cases x <;> cases y <;> go_enter Try.func70, Try.ntmps70 <;> go_wp2 <;> go_ret <;> exact ⟨rfl, rfl⟩
    by_cases k3 : k = 69
    · subst k3
      rw [if_neg k1, if_neg k2, if_pos rfl] at hr
      subst hr
      cases a1 <;> cases a2 <;> cases b1 <;> cases b2 <;> go_enter Try.func70, Try.ntmps70 <;> go_wp2 <;> go_ret <;> exact ⟨rfl, rfl⟩
    by_cases k4 : k = 76
    · subst k4
      rw [if_neg k1, if_neg k2, if_neg k3, if_pos rfl] at hr
      subst hr
      cases a1 <;> cases a2 <;> cases b1 <;> cases b2 <;> go_enter Try.func70, Try.ntmps70 <;> go_wp2 <;> go_ret <;> exact ⟨rfl, rfl⟩
    by_cases k5 : k = 78
    · subst k5
      rw [if_neg k1, if_neg k2, if_neg k3, if_neg k4, if_pos rfl] at hr
      subst hr
      cases a1 <;> cases a2 <;> cases b1 <;> cases b2 <;> go_enter Try.func70, Try.ntmps70
      all_goals go_wp2_with fail
      all_goals (refine (hd w).mono ?_; rintro e w1 ⟨rfl, rfl⟩; go_wp2; go_ret; exact ⟨rfl, rfl⟩)
    by_cases k6 : k = 80
    · subst k6
      rw [if_neg k1, if_neg k2, if_neg k3, if_neg k4, if_neg k5, if_pos rfl] at hr
      obtain ⟨x, hx⟩ : ∃ x, decide (32 ≤ c) = x := ⟨_, rfl⟩
      obtain ⟨y, hy⟩ : ∃ y, decide (c ≤ 126) = y := ⟨_, rfl⟩
      rw [hx, hy] at hr
      have hx2 : decide (c ≥ 32) = x := hx
      subst hr
      cases a1 <;> cases a2 <;> cases b1 <;> cases b2 <;> cases x <;> cases y <;> go_enter Try.func70, Try.ntmps70
      all_goals go_wp2_with fail
      all_goals first | (go_ret; exact ⟨rfl, rfl⟩) | (refine (hd w).mono ?_; rintro e w1 ⟨rfl, rfl⟩; go_wp2; go_ret; cases dg <;> exact ⟨rfl, rfl⟩)
    by_cases k7 : k = 85
    · subst k7
      rw [if_neg k1, if_neg k2, if_neg k3, if_neg k4, if_neg k5, if_neg k6, if_pos rfl] at hr
      subst hr
      cases a1 <;> cases a2 <;> cases b1 <;> cases b2 <;> go_enter Try.func70, Try.ntmps70 <;> go_wp2 <;> go_ret <;> exact ⟨rfl, rfl⟩
    · rw [if_neg k1, if_neg k2, if_neg k3, if_neg k4, if_neg k5, if_neg k6, if_neg k7] at hr
      subst hr
      cases a1 <;> cases a2 <;> cases b1 <;> cases b2 <;> go_enter Try.func70, Try.ntmps70 <;> go_wp2 <;> go_ret <;> exact ⟨rfl, rfl⟩
  exact core _ _ _ _ rfl rfl rfl rfl (by rw [← hlo]; rfl) (by rw [← hup]; rfl)
end Go.Proofs.Ytdegegajoccdjaa
