/- The contracts of the source's 'pick', 'one', 'among'. -/
import Derived.Test.YtdegegajoccdjaaNext
namespace Go.Proofs.Ytdegegajoccdjaa
open Go.RowKit
set_option linter.unusedVariables false

set_option maxHeartbeats 1000000 in
theorem pick_any (k : Int) (n : Nat) (w : World) (g : Nat) (h : Src n w g) (hn : n ≤ 999999999990) (hk0 : 0 ≤ k) (hk : k ≤ 1000000000) :
    Calls Try.prog 32 #[.pointer (some ⟨g, 0, none⟩), .int .i64 k] w (SrcPost (fun r => 0 ≤ r ∧ (r < k ∨ r = 0)) (n + 2) w g) := by
  by_cases h1 : k ≤ 1
  · go_enter Try.func32, Try.ntmps32
    go_wp2_with fail
    go_ret
    exact ⟨0, ⟨by omega, .inr rfl⟩, rfl, h.more (by omega), World.grownBy.refl _ _⟩
  · by_cases h2 : 200 < k
    · go_enter Try.func32, Try.ntmps32
      go_wp2_with fail
      refine (next_any n w g h (by omega)).mono ?_
      rintro e w1 ⟨r, ⟨hr0, hr1⟩, rfl, hs1, hg1⟩
      go_wp2_with fail
      refine (next_any (n + 1) w1 g hs1 (by omega)).mono ?_
      rintro e w2 ⟨r2, ⟨hq0, hq1⟩, rfl, hs2, hg2⟩
      go_wp2_with fail
      go_ret
      exact ⟨_, ⟨Int.emod_nonneg _ (by omega), .inl (Int.emod_lt_of_pos _ (by omega))⟩, rfl, hs2, only_trans hg1 hg2⟩
    · go_enter Try.func32, Try.ntmps32
      go_wp2_with fail
      refine (next_any n w g h (by omega)).mono ?_
      rintro e w1 ⟨r, ⟨hr0, hr1⟩, rfl, hs1, hg1⟩
      go_wp2_with fail
      go_ret
      exact ⟨_, ⟨Int.emod_nonneg _ (by omega), .inl (Int.emod_lt_of_pos _ (by omega))⟩, rfl, hs1.more (by omega), hg1⟩

/-- A bool comes back. -/
def SrcBool (n : Nat) (w : World) (g : Nat) (e : Ending) (w' : World) : Prop :=
  ∃ b : Bool, e = .returned (.bool b) ∧ Src n w' g ∧ w.grownBy w' (some g)

set_option maxHeartbeats 1000000 in
theorem one_any (k : Int) (n : Nat) (w : World) (g : Nat) (h : Src n w g) (hn : n ≤ 999999999990) (hk0 : 0 ≤ k) (hk : k ≤ 1000000000) :
    Calls Try.prog 35 #[.pointer (some ⟨g, 0, none⟩), .int .i64 k] w (SrcBool (n + 2) w g) := by
  go_enter Try.func35, Try.ntmps35
  go_wp2_with fail
  refine (pick_any k n w g h hn hk0 hk).mono ?_
  rintro e w1 ⟨r, ⟨hr0, hr1⟩, rfl, hs1, hg1⟩
  go_wp2_with fail
  go_ret
  exact ⟨_, rfl, hs1, hg1⟩

set_option maxHeartbeats 1000000 in
theorem among_any (R : Int → Prop) (b len cap : Nat) (cs : Array Value) (t : TypeId) (n : Nat) (w : World) (g : Nat) (h : Src n w g) (hn : n ≤ 999999999990) (hl0 : 0 < len) (hl : len ≤ 1000000)
    (hb : Blk w b t cs) (hbg : b ≠ g) (hc : ∀ i, i < len → ∃ v : Int, cs[i]? = some (.int .i64 v) ∧ R v) :
    Calls Try.prog 33 #[.pointer (some ⟨g, 0, none⟩), .slice (some ⟨b, 0, none⟩) len cap] w (SrcPost R (n + 2) w g) := by
  have HB := Lib.hid hb
  clear hb
  have HC := Lib.hid hc
  clear hc
  go_enter Try.func33, Try.ntmps33
  go_wp2_with fail
  refine (pick_any len n w g h hn (by omega) (by omega)).mono ?_
  rintro e w1 ⟨r, ⟨hr0, hr1⟩, rfl, hs1, hg1⟩
  obtain ⟨i, rfl⟩ := Int.eq_ofNat_of_zero_le hr0
  have hi : i < len := by omega
  obtain ⟨v, hv, hR⟩ := HC.out i hi
  have hcell : w1.cell? ⟨b, i, none⟩ = some (.int .i64 v) := by
    rw [(HB.out.grown hg1 (by intro e; injection e with e; exact hbg e)).cell i]; exact hv
  clear hv
  go_wp2_with fail
  go_ret
  exact ⟨v, hR, rfl, hs1, hg1⟩

/-- A text comes back. -/
def SrcStr (R : ByteArray → Prop) (n : Nat) (w : World) (g : Nat) (e : Ending) (w' : World) : Prop :=
  ∃ s : ByteArray, R s ∧ e = .returned (.string s) ∧ Src n w' g ∧ w.grownBy w' (some g)

set_option maxHeartbeats 1000000 in
theorem text_any (R : ByteArray → Prop) (b len cap : Nat) (cs : Array Value) (t : TypeId) (n : Nat) (w : World) (g : Nat) (h : Src n w g) (hn : n ≤ 999999999990) (hl0 : 0 < len) (hl : len ≤ 1000000)
    (hb : Blk w b t cs) (hbg : b ≠ g) (hc : ∀ i, i < len → ∃ v : ByteArray, cs[i]? = some (.string v) ∧ R v) :
    Calls Try.prog 34 #[.pointer (some ⟨g, 0, none⟩), .slice (some ⟨b, 0, none⟩) len cap] w (SrcStr R (n + 2) w g) := by
  have HB := Lib.hid hb
  clear hb
  have HC := Lib.hid hc
  clear hc
  go_enter Try.func34, Try.ntmps34
  go_wp2_with fail
  refine (pick_any len n w g h hn (by omega) (by omega)).mono ?_
  rintro e w1 ⟨r, ⟨hr0, hr1⟩, rfl, hs1, hg1⟩
  obtain ⟨i, rfl⟩ := Int.eq_ofNat_of_zero_le hr0
  have hi : i < len := by omega
  obtain ⟨v, hv, hR⟩ := HC.out i hi
  have hcell : w1.cell? ⟨b, i, none⟩ = some (.string v) := by
    rw [(HB.out.grown hg1 (by intro e; injection e with e; exact hbg e)).cell i]; exact hv
  clear hv
  go_wp2_with fail
  go_ret
  exact ⟨v, hR, rfl, hs1, hg1⟩
end Go.Proofs.Ytdegegajoccdjaa
