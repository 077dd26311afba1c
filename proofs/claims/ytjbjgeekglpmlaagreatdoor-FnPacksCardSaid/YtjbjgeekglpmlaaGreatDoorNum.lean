/- The drawn numbers: l01Num, A8Num. -/
import Derived.Test.YtjbjgeekglpmlaaGreatDoorPick
namespace Go.Proofs.YtjbjgeekglpmlaaGreatDoor
open Go.RowKit
set_option linter.unusedVariables false

theorem Src.alloc {n : Nat} {w : World} {g : Nat} (h : Src n w g) (o : Obj) : Src n (w.alloc o) g := h.keep fun b hb => Below.heap_alloc w o b (by have := h.lt; omega)

set_option maxHeartbeats 2000000 in
theorem l01Num_any (n : Nat) (w : World) (g : Nat) (h : Src n w g) (hn : n ≤ 999999999900) :
    Calls Tryz.prog 177 #[.pointer (some ⟨g, 0, none⟩)] w (SrcPost (fun _ => True) (n + 13) w g) := by
  go_enter Tryz.func177, Tryz.ntmps177
  go_wp2_with fail
  refine (pick_any 5 n w g h (by omega) (by omega) (by omega)).mono ?_
  rintro e w1 ⟨r, ⟨hr0, hr1⟩, rfl, hs1, hg1⟩
  by_cases h0 : r = 0
  · subst h0
    go_wp2_with fail
    refine (among_any (fun v => (fun _ => true) v = true) w1.heap.size 14 _ _ _ _ _ g (hs1.alloc _) (by omega) (by omega) (by omega) (Blk.new _ _ _) (by have := hs1.lt; omega) ?hcs).mono ?_
    case hcs => exact ints_of (fun _ => true) (by simp) (by rfl)
    rintro e w2 ⟨r2, _, rfl, hs2, hg2⟩
    go_wp2_with fail
    go_ret
    exact ⟨_, trivial, rfl, hs2.more (by omega), only_trans hg1 (only_trans (only_alloc (World.grownBy.refl _ _) _) hg2)⟩
  by_cases h1 : r = 1
  · subst h1
    go_wp2_with fail
    refine (pick_any 200 (n + 2) w1 g hs1 (by omega) (by omega) (by omega)).mono ?_
    rintro e w2 ⟨r2, ⟨hq0, hq1⟩, rfl, hs2, hg2⟩
    go_wp2_with fail
    go_ret
    exact ⟨_, trivial, rfl, hs2.more (by omega), only_trans hg1 hg2⟩
  by_cases h2 : r = 2
  · subst h2
    go_wp2_with fail
    refine (pick_any 20000 (n + 2) w1 g hs1 (by omega) (by omega) (by omega)).mono ?_
    rintro e w2 ⟨r2, ⟨hq0, hq1⟩, rfl, hs2, hg2⟩
    go_wp2_with fail
    go_ret
    exact ⟨_, trivial, rfl, hs2.more (by omega), only_trans hg1 hg2⟩
  have k0 : (r == 0) = false := by simp [h0]
  have k1 : (r == 1) = false := by simp [h1]
  have k2 : (r == 2) = false := by simp [h2]
  clear h0 h1 h2
  go_wp2_with fail
  refine (pick_any 8 (n + 2) w1 g hs1 (by omega) (by omega) (by omega)).mono ?_
  rintro e w2 ⟨r2, ⟨hq0, hq1⟩, rfl, hs2, hg2⟩
  obtain ⟨k, rfl⟩ := Int.eq_ofNat_of_zero_le hq0
  go_wp2_with fail
  go_loopw [3, 4] (fun v i wr => ∃ (k : Nat) (x : Int), k ≤ 7 ∧ i = .int .i64 k ∧ v = .int .i64 x ∧ Src (n + 11 - k) wr g ∧ w.grownBy wr (some g)) (fun _ i _ => (intOf i).toNat)
  case atStart => exact ⟨k, 0, by omega, rfl, rfl, hs2.more (by omega), only_trans hg1 hg2⟩
  case round =>
    obtain ⟨k, x, hk, rfl, rfl, hsr, hgr⟩ := hrel
    by_cases hpos : 0 < k
    · go_wp2_with fail
      refine (next_any _ wr g hsr (by omega)).mono ?_
      rintro e w3 ⟨r3, ⟨hp0, hp1⟩, rfl, hs3, hg3⟩
      go_wp2_with fail
      go_roundw
      case rel => exact ⟨k - 1, _, by omega, by go_num, rfl, hs3.more (by omega), only_trans hgr hg3⟩
      case measure => simp [intOf]; omega
    · go_wp2_with fail
      refine (one_any 2 _ wr g hsr (by omega) (by omega) (by omega)).mono ?_
      rintro e w3 ⟨b, rfl, hs3, hg3⟩
      cases b
      · go_wp2_with fail
        go_ret
        exact ⟨_, trivial, rfl, hs3.more (by omega), only_trans hgr hg3⟩
      · go_wp2_with fail
        go_ret
        exact ⟨_, trivial, rfl, hs3.more (by omega), only_trans hgr hg3⟩
end Go.Proofs.YtjbjgeekglpmlaaGreatDoor
