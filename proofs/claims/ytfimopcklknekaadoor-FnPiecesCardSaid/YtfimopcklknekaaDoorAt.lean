/- The laws' choices out of bytes: a8At. -/
import Derived.Test.YtfimopcklknekaaDoorDrawn
namespace Go.Proofs.YtfimopcklknekaaDoor
open Go.RowKit
set_option linter.unusedVariables false

/-- A choice below n comes back. -/
def AtPost (n : Int) (w : World) (e : Ending) (w' : World) : Prop := ∃ r : Int, 0 ≤ r ∧ r < n ∧ e = .returned (.int .i64 r) ∧ Below w.heap.size w w'

set_option maxHeartbeats 1000000 in
theorem a8At_any (i : Nat) (n : Int) (a : Option Addr) (len cap : Nat) (w : World) (hi : i ≤ 1000000) (hn0 : 1 ≤ n) (hn : n ≤ 1000000000) (hl : len ≤ 1048577) (hb : BytesAt w w.heap.size a len) :
    Calls Tryd.prog 10 #[.slice a len cap, .int .i64 i, .int .i64 n] w (AtPost n w) := by
  by_cases h1 : n ≤ 1
  · go_enter Tryd.func10, Tryd.ntmps10
    go_wp2_with fail
    go_ret
    exact ⟨0, by omega, by omega, rfl, Below.refl _ _⟩
  · by_cases h2 : len = 0
    · subst h2
      go_enter Tryd.func10, Tryd.ntmps10
      go_wp2_with fail
      go_ret
      exact ⟨_, Int.emod_nonneg _ (by omega), Int.emod_lt_of_pos _ (by omega), rfl, Below.refl _ _⟩
    · obtain ⟨b, off, rfl, hbl, hc⟩ := hb (by omega)
      have m1 : i % len < len := Nat.mod_lt _ (by omega)
      have m2 : (i + 1) % len < len := Nat.mod_lt _ (by omega)
      obtain ⟨z1, hz1, c1⟩ := hc (i % len) m1
      obtain ⟨z2, hz2, c2⟩ := hc ((i + 1) % len) m2
      have t1 : (i : Int).tmod (len : Int) = ((i % len : Nat) : Int) := by rw [Int.ofNat_tmod]
      have t2 : ((i : Int) + 1).tmod (len : Int) = (((i + 1) % len : Nat) : Int) := by rw [show (i : Int) + 1 = ((i + 1 : Nat) : Int) from by omega, Int.ofNat_tmod]
      have t3 : (i : Int).tdiv (len : Int) = ((i / len : Nat) : Int) := by rw [Int.ofNat_tdiv]
      have q1 : i / len ≤ 1000000 := Nat.le_trans (Nat.div_le_self _ _) hi
      revert c1 c2 t1 t2 t3 q1
      generalize i % len = k1 at *
      generalize (i + 1) % len = k2 at *
      generalize i / len = q at *
      intro c1 c2 t1 t2 t3 q1
      have s2 : IntKind.i64.wrap ((i : Int) + 1) = (i : Int) + 1 := IntWalk.i64_in _ (by omega)
      have s6 : IntKind.i64.wrap (q : Int) = (q : Int) := IntWalk.i64_in _ (by omega)
      have s3 : IntKind.i64.wrap ((z1 : Int) * 31) = (z1 : Int) * 31 := IntWalk.i64_in _ (by omega)
      have s4 : IntKind.i64.wrap ((z1 : Int) * 31 + (z2 : Int)) = (z1 : Int) * 31 + (z2 : Int) := IntWalk.i64_in _ (by omega)
      have s5 : IntKind.i64.wrap ((z1 : Int) * 31 + (z2 : Int) + (q : Int)) = (z1 : Int) * 31 + (z2 : Int) + (q : Int) := IntWalk.i64_in _ (by omega)
      have e0 : ((len : Int) == 0) = false := by simp; omega
      have b1 : (k1 : Int) < (len : Int) := by omega
      have b2 : (k2 : Int) < (len : Int) := by omega
      have b3 : (0 : Int) ≤ (k1 : Int) := by omega
      have b4 : (0 : Int) ≤ (k2 : Int) := by omega
      clear hc
      go_enter Tryd.func10, Tryd.ntmps10
      go_wp2_with fail
      go_quiet (fail)
      clear s2 s3 s4 s5 s6
      go_wp2_with fail
      go_ret
      exact ⟨_, Int.emod_nonneg _ (by omega), Int.emod_lt_of_pos _ (by omega), rfl, below_drewN (Below.refl _ _) _⟩
end Go.Proofs.YtfimopcklknekaaDoor
