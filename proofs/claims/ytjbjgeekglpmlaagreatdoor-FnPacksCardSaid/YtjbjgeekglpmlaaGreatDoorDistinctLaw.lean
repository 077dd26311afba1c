/- Plain: a list is without doubles just where sorting and dropping equal neighbours keeps its length. -/
import Derived.Lib.SlicesCompact
namespace Go.Proofs.YtjbjgeekglpmlaaGreatDoor
set_option linter.unusedVariables false

abbrev leStr (x y : List UInt8) : Bool := decide (x ≤ y)
theorem leStr_trans (a b c : List UInt8) (h1 : leStr a b = true) (h2 : leStr b c = true) : leStr a c = true := by
  simp only [leStr, decide_eq_true_eq] at *
  exact List.le_trans h1 h2
theorem leStr_total (a b : List UInt8) : (leStr a b || leStr b a) = true := by
  simp only [leStr, Bool.or_eq_true, decide_eq_true_eq]
  exact List.le_total a b

theorem compact_len_iff (s : List (List UInt8)) : (Lib.compact s).length = s.length ↔ ∀ j (h : j < s.length), 0 < j → s[j] ≠ s[j - 1]'(by omega) := by
  unfold Lib.compact Lib.compactUpTo
  rw [List.length_map]
  have key : ((List.range s.length).filter (Lib.keeps s.toArray)).length = s.length ↔ ∀ a ∈ List.range s.length, Lib.keeps s.toArray a = true := by
    have := List.length_filter_eq_length_iff (p := Lib.keeps s.toArray) (l := List.range s.length)
    rwa [List.length_range] at this
  rw [key]
  constructor
  · intro h j hj h0 he
    have := h j (by simpa using hj)
    rw [Lib.keeps_neg h0 (by simp [hj, show j - 1 < s.length by omega]; exact he)] at this
    cases this
  · intro h
    intro j hj
    have hj' : j < s.length := by simpa using hj
    by_cases h0 : j = 0
    · subst h0; simp [Lib.keeps]
    · refine Lib.keeps_pos ?_
      simp [hj', show j - 1 < s.length by omega]
      exact h j hj' (by omega)

theorem sorted_nodup (s : List (List UInt8)) (hs : s.Pairwise (fun a b => leStr a b = true)) : (∀ j (h : j < s.length), 0 < j → s[j] ≠ s[j - 1]'(by omega)) ↔ s.Nodup := by
  constructor
  · intro h
    rw [List.nodup_iff_pairwise_ne, List.pairwise_iff_getElem]
    intro i j hi hj hij he
    rw [List.pairwise_iff_getElem] at hs
    have h1 : leStr s[j - 1] s[j] = true := hs (j - 1) j (by omega) hj (by omega)
    have h2 : leStr s[i] (s[j - 1]'(by omega)) = true := by
      by_cases e : i = j - 1
      · subst e
        simp [leStr]
      · exact hs i (j - 1) hi (by omega) (by omega)
    rw [he] at h2
    simp only [leStr, decide_eq_true_eq] at h1 h2
    exact h j hj (by omega) (List.le_antisymm h2 h1)
  · intro h j hj h0 he
    rw [List.nodup_iff_pairwise_ne, List.pairwise_iff_getElem] at h
    exact h (j - 1) j (by omega) hj (by omega) he.symm

theorem distinct_law (ss : List (List UInt8)) : (Lib.compact (ss.mergeSort fun x y => decide (x ≤ y))).length = ss.length ↔ ss.Nodup := by
  have hp := List.mergeSort_perm ss leStr
  rw [← hp.length_eq, compact_len_iff, sorted_nodup _ (List.pairwise_mergeSort leStr_trans leStr_total ss)]
  exact hp.nodup_iff
end Go.Proofs.YtjbjgeekglpmlaaGreatDoor
