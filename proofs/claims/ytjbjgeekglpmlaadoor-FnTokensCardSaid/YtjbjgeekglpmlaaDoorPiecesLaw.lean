/- Plain: the pieces of a text by a separator. -/
import Derived.Lib.Split
import Derived.Lib.Join
namespace Go.Proofs.YtjbjgeekglpmlaaDoor
set_option linter.unusedVariables false

theorem index_occ {s sub : List UInt8} : ∀ {i : Nat}, Lib.index s sub = (i : Int) → Lib.occAt s sub i = true ∧ i ≤ s.length := by
  induction s with
  | nil =>
    intro i h
    unfold Lib.index at h
    split at h
    · rename_i hs
      have : i = 0 := by omega
      subst this
      exact ⟨by unfold Lib.occAt; cases sub <;> simp_all, by simp⟩
    · omega
  | cons b l ih =>
    intro i h
    unfold Lib.index at h
    split at h
    · rename_i hs
      have : i = 0 := by omega
      subst this
      exact ⟨by unfold Lib.occAt; simpa using hs, by simp⟩
    · split at h
      · omega
      · rename_i h2
        have hge := Lib.index_ge l sub
        have hne : Lib.index l sub ≠ -1 := fun e => h2 (by rw [e]; rfl)
        obtain ⟨j, hj⟩ : ∃ j : Nat, Lib.index l sub = (j : Int) := ⟨(Lib.index l sub).toNat, by omega⟩
        have : i = j + 1 := by omega
        subst this
        obtain ⟨h3, h4⟩ := ih hj
        refine ⟨?_, by simp; omega⟩
        unfold Lib.occAt at h3 ⊢
        simpa using h3
theorem occ_take {s sub : List UInt8} {i : Nat} (h : Lib.occAt s sub i = true) : s.take i ++ (sub ++ s.drop (i + sub.length)) = s := by
  unfold Lib.occAt at h
  have hp := List.isPrefixOf_iff_prefix.1 h
  obtain ⟨t, ht⟩ := hp
  have h2 : s.drop (i + sub.length) = t := by
    rw [← List.drop_drop, ← ht, List.drop_left]
  rw [h2, ht, List.take_append_drop]
theorem index_none_of {s sub : List UInt8} (h : ∀ j, Lib.occAt s sub j = false) : Lib.index s sub = -1 := by
  have hge := Lib.index_ge s sub
  by_cases hn : Lib.index s sub = -1
  · exact hn
  · obtain ⟨j, hj⟩ : ∃ j : Nat, Lib.index s sub = (j : Int) := ⟨(Lib.index s sub).toNat, by omega⟩
    have := (index_occ hj).1
    rw [h j] at this
    cases this
/-- No place ahead of the first one. -/
theorem index_first_min {s sub : List UInt8} : ∀ {i : Nat}, Lib.index s sub = (i : Int) → ∀ j, j < i → Lib.occAt s sub j = false := by
  induction s with
  | nil =>
    intro i h j hj
    unfold Lib.index at h
    split at h <;> omega
  | cons b l ih =>
    intro i h j hj
    unfold Lib.index at h
    split at h
    · omega
    · rename_i hs
      split at h
      · omega
      · rename_i h2
        have hge := Lib.index_ge l sub
        have hne : Lib.index l sub ≠ -1 := fun e => h2 (by rw [e]; rfl)
        obtain ⟨m, hm⟩ : ∃ m : Nat, Lib.index l sub = (m : Int) := ⟨(Lib.index l sub).toNat, by omega⟩
        cases j with
        | zero => unfold Lib.occAt; rw [List.drop_zero]; exact Bool.eq_false_iff.2 hs
        | succ j =>
          have := ih hm j (by omega)
          unfold Lib.occAt at this ⊢
          simpa using this
/-- What stands ahead of the first place holds none. -/
theorem index_take {s sub : List UInt8} {i : Nat} (hsub : sub ≠ []) (h : Lib.index s sub = (i : Int)) : Lib.index (s.take i) sub = -1 := by
  apply index_none_of
  intro j
  cases hj : Lib.occAt (s.take i) sub j with
  | false => rfl
  | true =>
    unfold Lib.occAt at hj
    obtain ⟨t, ht⟩ := List.isPrefixOf_iff_prefix.1 hj
    have hl := congrArg List.length ht
    rw [List.length_append, List.length_drop, List.length_take] at hl
    have hpos : 0 < sub.length := List.length_pos_iff.2 hsub
    have hji : j < i := by omega
    have := index_first_min h j hji
    unfold Lib.occAt at this
    have h2 : sub.isPrefixOf (s.drop j) = true := by
      apply List.isPrefixOf_iff_prefix.2
      have h3 : (s.take i).drop j <+: s.drop j := by
        rw [List.drop_take]; exact List.take_prefix _ _
      exact List.IsPrefix.trans ⟨t, ht⟩ h3
    rw [h2] at this
    cases this
theorem splitK_ne (sep : List UInt8) (save k : Nat) (s : List UInt8) : Lib.splitK sep save k s ≠ [] := by
  cases k with
  | zero => simp [Lib.splitK]
  | succ k => unfold Lib.splitK; split <;> simp
theorem join_cons2 (x : List UInt8) (l : List (List UInt8)) (sep : List UInt8) (h : l ≠ []) : Lib.join (x :: l) sep = x ++ (sep ++ Lib.join l sep) := by
  cases l with
  | nil => exact absurd rfl h
  | cons y l => unfold Lib.join; rw [List.intercalate_cons_cons]; simp
theorem join_one (x sep : List UInt8) : Lib.join [x] sep = x := by unfold Lib.join; simp
/-- The pieces joined are the text; none holds the separator. -/
theorem split_law (sep : List UInt8) (hsep : sep ≠ []) : ∀ (k : Nat) (s : List UInt8), k = Lib.count s sep → Lib.join (Lib.splitK sep 0 k s) sep = s ∧ (∀ p ∈ Lib.splitK sep 0 k s, Lib.index p sep = -1) ∧ (Lib.splitK sep 0 k s).length = k + 1
  | 0, s, hk => by
    have hm : Lib.index s sep = -1 := by
      have hge := Lib.index_ge s sep
      by_cases h : Lib.index s sep = -1
      · exact h
      · have h2 := Lib.count_hit (s := s) (i := (Lib.index s sep).toNat) hsep (by omega)
        omega
    refine ⟨join_one _ _, ?_, rfl⟩
    intro p hp
    have : p = s := by simpa [Lib.splitK] using hp
    rw [this]; exact hm
  | k + 1, s, hk => by
    have hge := Lib.index_ge s sep
    have hne : Lib.index s sep ≠ -1 := fun e => by
      have := Lib.count_miss e
      omega
    obtain ⟨i, hi⟩ : ∃ i : Nat, Lib.index s sep = (i : Int) := ⟨(Lib.index s sep).toNat, by omega⟩
    have hc := Lib.count_hit hsep hi
    have ih := split_law sep hsep k (s.drop (i + sep.length)) (by omega)
    have hnb : ¬ (Lib.index s sep == -1) = true := fun e => hne (beq_iff_eq.1 e)
    have e0 : Lib.splitK sep 0 (k + 1) s = s.take i :: Lib.splitK sep 0 k (s.drop (i + sep.length)) := by
      conv => lhs; unfold Lib.splitK
      rw [if_neg hnb, hi]
      simp
    rw [e0]
    refine ⟨?_, ?_, ?_⟩
    · rw [join_cons2 _ _ _ (splitK_ne _ _ _ _), ih.1]
      exact occ_take (index_occ hi).1
    · intro p hp
      rcases List.mem_cons.1 hp with rfl | hp
      · exact index_take hsep hi
      · exact ih.2.1 p hp
    · rw [List.length_cons, ih.2.2]
theorem count_index (s sep : List UInt8) (hsep : sep ≠ []) : (0 ≤ Lib.index s sep) ↔ 1 ≤ Lib.count s sep := by
  have hge := Lib.index_ge s sep
  constructor
  · intro h
    obtain ⟨i, hi⟩ : ∃ i : Nat, Lib.index s sep = (i : Int) := ⟨(Lib.index s sep).toNat, by omega⟩
    have := Lib.count_hit hsep hi
    omega
  · intro h
    by_cases hm : Lib.index s sep = -1
    · have := Lib.count_miss hm; omega
    · omega
end Go.Proofs.YtjbjgeekglpmlaaDoor
