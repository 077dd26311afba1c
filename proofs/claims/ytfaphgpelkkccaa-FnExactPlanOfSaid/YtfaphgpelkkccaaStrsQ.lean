/- Slices of texts: the contracts in the uniform words. -/
import Derived.Test.YtfaphgpelkkccaaDat
import Derived.Test.YtfaphgpelkkccaaCond
namespace Go.Proofs.Ytfaphgpelkkccaa
open Go.RowKit
set_option linter.unusedVariables false

theorem strsE_v {w : World} {lo hi : Nat} {v : Value} {xs : List ByteArray} (h : strsE w lo hi [v] xs) : ∃ a n c, v = .slice a n c := by
  obtain ⟨a, c, he, _⟩ := h
  injection he with he _
  exact ⟨a, _, c, he⟩
theorem slE_v {α : Type} {E : Enc α} {w : World} {lo hi : Nat} {v : Value} {xs : List α} (h : slE E w lo hi [v] xs) : ∃ a n c, v = .slice a n c := by
  obtain ⟨a, c, css, he, _⟩ := h
  injection he with he _
  exact ⟨a, _, c, he⟩
/-- A slice of texts, opened. -/
theorem strsE_o {w : World} {lo hi : Nat} {v : Value} {xs : List ByteArray} (h : strsE w lo hi [v] xs) : ∃ a c, v = .slice a xs.length c ∧ xs.length ≤ c ∧ RowAt w hi a (strCells xs) := by
  obtain ⟨a, c, he, hc, hr⟩ := h
  injection he with he _
  exact ⟨a, c, he, hc, hr.at_⟩
def StrsWf (xs : List ByteArray) : Prop := xs.length ≤ 9223372036854775807 ∧ ∀ x ∈ xs, x.size ≤ 9223372036854775807

theorem szStringS_q (xs : List ByteArray) (v : Value) (left : Int) (w : World) (h0 : 0 ≤ left) (h1 : left ≤ 1048576) (hw : StrsWf xs) (h : strsE w 0 w.heap.size [v] xs) :
    Calls Try.prog 24 #[v, .int .i64 left] w (SzPost (strsNeed xs) left w) := by
  obtain ⟨a, c, rfl, _, hr⟩ := strsE_o h
  exact szStringS_any xs a c w.heap.size left w h0 h1 hw.1 hw.2 hr
theorem strs_small {xs : List ByteArray} (h : strsNeed xs ≤ 1048576) : xs.length ≤ 1048576 := by unfold strsNeed at h; omega
theorem strs_size {xs : List ByteArray} {m : Nat} (h : strsNeed xs ≤ m) : ∀ x ∈ xs, x.size ≤ m := by
  intro x hx
  obtain ⟨k, hk, rfl⟩ := List.getElem_of_mem hx
  have h1 := sum_take_succ xs k hk
  have h2 := sum_take_le xs (k + 1)
  unfold strsNeed at h
  omega
theorem toStringS_new (xs : List ByteArray) (v : Value) (w : World) (hn : strsNeed xs ≤ 1048576) (h : strsE w 0 w.heap.size [v] xs) :
    Calls Try.prog 30 #[v] w (NewSl strsE xs w) := by
  obtain ⟨a, c, rfl, _, hr⟩ := strsE_o h
  refine (toStringS_any xs a c w (strs_small hn) hr).mono fun e w' ⟨v', he, hown, hb⟩ => ?_
  obtain ⟨a', c', rfl, hc', hr'⟩ := RowIn.of_own hown
  exact ⟨_, he, ⟨a', c', rfl, hc', hr'⟩, hb⟩
theorem eqStringS_q (xs : List ByteArray) (v u : Value) (w : World) (hn : strsNeed xs ≤ 1048576) (h : strsE w 0 w.heap.size [v] xs) (h2 : strsE w 0 w.heap.size [u] xs) :
    Calls Try.prog 40 #[v, u] w (ValPost (.bool true) w) := by
  obtain ⟨a, c, rfl, _, hr⟩ := strsE_o h
  obtain ⟨a2, c2, rfl, _, hr2⟩ := strsE_o h2
  have := strs_small hn
  exact (eqStringS_any xs xs a a2 c c2 w.heap.size true (by simp) w (by omega) (by omega) hr hr2).mono fun e w' ⟨he, m, hm⟩ => ⟨he, by rw [hm]; exact below_drewN (Below.refl _ _) _⟩
end Go.Proofs.Ytfaphgpelkkccaa
