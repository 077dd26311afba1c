/- The drawn values: l10Value, A8Value. -/
import Derived.Test.YtfimopcklknekaaDoorDrawsT
namespace Go.Proofs.YtfimopcklknekaaDoor
open Go.RowKit Go.Shelf
set_option linter.unusedVariables false

set_option maxHeartbeats 2000000 in
theorem l10Value_any (n : Nat) (w : World) (g : Nat) (h : Src n w g) (hn : n ≤ 999999800000) :
    Calls Tryd.prog 36 #[.pointer (some ⟨g, 0, none⟩)] w (SrcStr (fun s => s.size ≤ 1000) (n + 3000) w g) := by
  go_enter Tryd.func36, Tryd.ntmps36
  go_wp2_with fail
  refine (pick_any 4 n w g h (by omega) (by omega) (by omega)).mono ?_
  rintro e w1 ⟨r, ⟨hr0, hr1⟩, rfl, hs1, hg1⟩
  by_cases h0 : r = 0
  · subst h0
    go_wp2_with fail
    refine (l01Word_any (n + 2) w1 g hs1 (by omega)).mono ?_
    rintro e w2 ⟨s2, hs, rfl, hs2, hg2⟩
    go_wp2_with fail
    go_ret
    exact ⟨_, hs, rfl, hs2.more (by omega), only_trans hg1 hg2⟩
  by_cases h1 : r = 1
  · subst h1
    go_wp2_with fail
    refine (text_any (fun s => short s = true) w1.heap.size 10 _ _ _ _ _ g (hs1.alloc _) (by omega) (by omega) (by omega) (Blk.new _ _ _) (by have := hs1.lt; omega) ?hcs).mono ?_
    case hcs => exact strs_of short (by decide) (by decide)
    rintro e w2 ⟨s2, hs, rfl, hs2, hg2⟩
    go_wp2_with fail
    go_ret
    exact ⟨_, Nat.le_trans (of_decide_eq_true hs) (by omega), rfl, hs2.more (by omega), only_trans hg1 (only_trans (only_alloc (World.grownBy.refl _ _) _) hg2)⟩
  by_cases h2 : r = 2
  · subst h2
    go_wp2_with fail
    refine (text_any (fun s => short s = true) w1.heap.size 9 _ _ _ _ _ g (hs1.alloc _) (by omega) (by omega) (by omega) (Blk.new _ _ _) (by have := hs1.lt; omega) ?hcs2).mono ?_
    case hcs2 => exact strs_of short (by decide) (by decide)
    rintro e w2 ⟨s2, hs, rfl, hs2, hg2⟩
    go_wp2_with fail
    go_ret
    exact ⟨_, Nat.le_trans (of_decide_eq_true hs) (by omega), rfl, hs2.more (by omega), only_trans hg1 (only_trans (only_alloc (World.grownBy.refl _ _) _) hg2)⟩
  have k0 : (r == 0) = false := by simp [h0]
  have k1 : (r == 1) = false := by simp [h1]
  have k2 : (r == 2) = false := by simp [h2]
  clear h0 h1 h2
  go_wp2_with fail
  refine (word_any 7 (n + 2) w1 g hs1 (by omega) (by omega) (by omega)).mono ?_
  rintro e w2 ⟨s2, hs, rfl, hs2, hg2⟩
  have hs' : s2.size ≤ 1000 := by omega
  clear hs
  go_wp2_with fail
  go_ret
  exact ⟨_, hs', rfl, hs2.more (by omega), only_trans hg1 hg2⟩

theorem A8Value_any (a : Option Addr) (len cap : Nat) (w : World) (hl : len ≤ 1048577) (hb : BytesAt w w.heap.size a len) :
    Calls Tryd.prog 9 #[.slice a len cap] w (TextPost w) := by
  go_enter Tryd.func9, Tryd.ntmps9
  go_wp2_with fail
  refine (l00From_any a len cap w hl hb).mono ?_
  rintro e w1 ⟨rfl, hs1, hb1⟩
  go_wp2_with fail
  refine (l10Value_any 0 w1 _ hs1 (by omega)).mono ?_
  rintro e w2 ⟨s, hs, rfl, hs2, hg2⟩
  go_wp2_with fail
  go_ret
  exact ⟨s, hs, rfl, below_only hb1 hg2 (Nat.le_refl _) (by have := hb1.size; omega)⟩
end Go.Proofs.YtfimopcklknekaaDoor
