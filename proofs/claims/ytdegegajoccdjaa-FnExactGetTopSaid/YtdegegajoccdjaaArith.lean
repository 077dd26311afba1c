/- Contracts of the program's number functions: within, isNum, operands, checkedNum, AddNum, SubNum; the reference's l00In, l01Is; the drawn number A8Num; the mixed bytes a8Mix. -/
import Derived.Test.YtdegegajoccdjaaNum
import Derived.Test.YtdegegajoccdjaaApp
namespace Go.Proofs.Ytdegegajoccdjaa
open Go.RowKit
set_option linter.unusedVariables false

/-- From lo to hi. -/
def inR (n lo hi : Int) : Bool := decide (lo ≤ n ∧ n ≤ hi)
theorem inR_t {n lo hi : Int} (h : lo ≤ n) (k : n ≤ hi) : inR n lo hi = true := by simp [inR, h, k]
theorem inR_f {n lo hi : Int} (h : n < lo ∨ hi < n) : inR n lo hi = false := by simp only [inR, decide_eq_false_iff_not]; omega

theorem within_any (n lo hi : Int) (b : Bool) (hb : inR n lo hi = b) (w : World) :
    Calls Try.prog 37 #[.int .i64 n, .int .i64 lo, .int .i64 hi] w fun e w' => e = .returned (.bool b) ∧ w = w' := by
  subst hb
  by_cases h1 : lo ≤ n
  · by_cases h2 : n ≤ hi
    · have hr := Lib.hid (inR_t h1 h2)
      go_enter Try.func37, Try.ntmps37
      go_wp2
      go_ret
      exact ⟨by rw [hr.out]; rfl, rfl⟩
    · have hr := Lib.hid (inR_f (n := n) (lo := lo) (hi := hi) (.inr (by omega)))
      have h3 : decide (n ≤ hi) = false := by simp; omega
      go_enter Try.func37, Try.ntmps37
      go_wp2
      go_ret
      exact ⟨by rw [hr.out]; rfl, rfl⟩
  · have hr := Lib.hid (inR_f (n := n) (lo := lo) (hi := hi) (.inl (by omega)))
    have h3 : decide (lo ≤ n) = false := by simp; omega
    go_enter Try.func37, Try.ntmps37
    go_wp2
    go_ret
    exact ⟨by rw [hr.out]; rfl, rfl⟩

theorem l00In_any (n lo hi : Int) (b : Bool) (hb : inR n lo hi = b) (w : World) :
    Calls Try.prog 41 #[.int .i64 n, .int .i64 lo, .int .i64 hi] w fun e w' => e = .returned (.bool b) ∧ w = w' := by
  subst hb
  by_cases h1 : lo ≤ n
  · by_cases h2 : n ≤ hi
    · have hr := Lib.hid (inR_t h1 h2)
      go_enter Try.func41, Try.ntmps41
      go_wp2
      go_ret
      exact ⟨by rw [hr.out]; rfl, rfl⟩
    · have hr := Lib.hid (inR_f (n := n) (lo := lo) (hi := hi) (.inr (by omega)))
      have h3 : decide (n ≤ hi) = false := by simp; omega
      go_enter Try.func41, Try.ntmps41
      go_wp2
      go_ret
      exact ⟨by rw [hr.out]; rfl, rfl⟩
  · have hr := Lib.hid (inR_f (n := n) (lo := lo) (hi := hi) (.inl (by omega)))
    have h3 : decide (lo ≤ n) = false := by simp; omega
    go_enter Try.func41, Try.ntmps41
    go_wp2
    go_ret
    exact ⟨by rw [hr.out]; rfl, rfl⟩



/-- A number of the program. -/
def IsNum (n : Int) : Prop := -999999999999999999 ≤ n ∧ n ≤ 999999999999999999
theorem IsNum.inR {n : Int} (h : IsNum n) : inR n (-999999999999999999) 999999999999999999 = true := inR_t h.1 h.2




end Go.Proofs.Ytdegegajoccdjaa
