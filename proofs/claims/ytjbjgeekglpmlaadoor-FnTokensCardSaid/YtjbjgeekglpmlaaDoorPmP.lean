/- The reference's parser of places, by the reckoner: proofs. -/
import Derived.Test.YtjbjgeekglpmlaaDoorPmT
namespace Go.Proofs.YtjbjgeekglpmlaaDoor
open Go.RowKit
set_option linter.unusedVariables false
set_option linter.unusedSimpArgs false

theorem ok_nameS : EntryOk Tryd.prog 65 E_nameS := ⟨⟨_, Tryd.func65, by kernel_rfl, by kernel_rfl⟩, fun ivs res bxs h => by
  unfold E_nameS at h
  split at h
  · rename_i s
    obtain ⟨hc, he⟩ := pick1 h
    cases he
    have hs : s.size ≤ 1048576 := of_decide_eq_true hc
    refine contract_flat (ps := [.str s]) (v := .bool (nameB s)) rfl fun w com vals hv _ => ?_
    obtain ⟨v, vs, rfl, hv, hn⟩ := hv.of_cons
    rw [hn.of_nil]
    cases hv
    refine (l02Name_any s _ rfl w (by omega)).mono ?_
    rintro e w' ⟨rfl, rfl⟩
    exact ⟨rfl, Below.refl _ _⟩
  · cases h⟩
theorem ok_tab3 : EntriesOk Tryd.prog tab3 := ⟨ok_nameS, ok_tab2⟩

theorem lexE_ok {s : ByteArray} {i : Int} (h : okS s i = true) (ho : lexO (SL s i) = true) : okS s (lexE (SL s i) i) = true := by
  obtain ⟨k, rfl, hk, hs⟩ := okS_inv h
  have hl : (SL s k).length = s.size - k := by rw [SL_nat, List.length_drop, len_size]
  unfold lexE
  by_cases h1 : SL s k = []
  · rw [if_pos h1]; exact h
  · rw [if_neg h1]
    have h2 : tokN (SL s k) ≠ 0 := by
      unfold lexO at ho
      rw [decide_eq_false h1, Bool.false_or] at ho
      exact of_decide_eq_true ho
    rw [if_neg h2]
    have := tokN_le h1
    exact okS_mk (k := k + tokN (SL s k)) (by omega) hs
theorem bs_size (l : List UInt8) : (bs l).size = l.length := by unfold bs; rfl
theorem tx_le {s : ByteArray} {i : Int} (h : okS s i = true) : (tx (SL s i)).size ≤ s.size := by
  obtain ⟨k, rfl, hk, hs⟩ := okS_inv h
  have hl : (SL s k).length = s.size - k := by rw [SL_nat, List.length_drop, len_size]
  unfold tx lexT
  rw [bs_size]
  by_cases h1 : SL s k = []
  · rw [if_pos h1]; simp
  · rw [if_neg h1]
    by_cases h2 : tokN (SL s k) = 0
    · rw [if_pos h2]; simp
    · rw [if_neg h2]
      have : (tokT (SL s k)).length ≤ (SL s k).length := by
        unfold tokT
        split
        · unfold qT
          cases hq : qR ((SL s k).drop 1) with
          | none => simp
          | some x =>
            have h3 := qR_len _ _ _ hq
            have h4 := congrArg List.length (qR_take _ _ _ hq)
            have h5 := dbl_len x.1
            have h6 : x.1.length ≤ (dbl x.1).length := by
              have : ∀ l : List UInt8, l.length ≤ (dbl l).length := by
                intro l
                induction l with
                | nil => simp [dbl]
                | cons c l ih => unfold dbl; split <;> simp <;> omega
              exact this _
            rw [List.length_append, List.length_take] at h4
            simp at h3 h4
            show x.1.length ≤ _
            omega
        · rw [List.length_take]; omega
      omega

theorem tx_size {s : ByteArray} {i : Int} (h : okS s i = true) : (tx (SL s i)).size ≤ 1048576 := by
  have := tx_le h
  obtain ⟨k, rfl, hk, hs⟩ := okS_inv h
  omega
theorem place_sizes {s : ByteArray} {i j : Int} (h : okS s i = true) (h' : okS s j = true) : (decide (1 + (tx (SL s j)).size ≤ 9223372036854775807) && true) = true ∧ (decide ((tx (SL s i)).size + (caret ++ tx (SL s j)).size ≤ 9223372036854775807) && true) = true ∧
    (decide (0 + (caret ++ tx (SL s j)).size ≤ 9223372036854775807) && true) = true ∧ (decide ((tx (SL s i)).size + 1 ≤ 9223372036854775807) && true) = true := by
  have h1 := tx_size h
  have h2 := tx_size h'
  have h3 : (caret ++ tx (SL s j)).size = 1 + (tx (SL s j)).size := ByteArray.size_append
  refine ⟨?_, ?_, ?_, ?_⟩ <;> rw [Bool.and_true] <;> exact decide_eq_true (by omega)

theorem ok_peek : EntryOk Tryd.prog 64 E_peek := entry_of mix ok_tab3 (lp := []) (LO := LO0) ⟨Tryd.func64, by kernel_rfl, by kernel_rfl⟩ (by kernel_rfl) fun ivs res bxs h => by
  unfold E_peek at h
  split at h
  · rename_i s i b
    refine ⟨noLoop (by kernel_rfl), (q_peek_eq s i b).trans ?_⟩
    cases hO : okS s i <;> cases hA : lexO (SL s i) <;> simp only [hO, hA, pickA, brC, Bool.and_true, Bool.and_false, Bool.not_true, Bool.not_false, cond_true, cond_false] at h ⊢ <;> cases h <;> rfl
  · cases h
theorem ok_skip : EntryOk Tryd.prog 66 E_skip := entry_of mix ok_tab3 (lp := []) (LO := LO0) ⟨Tryd.func66, by kernel_rfl, by kernel_rfl⟩ (by kernel_rfl) fun ivs res bxs h => by
  unfold E_skip at h
  split at h
  · rename_i s i b
    refine ⟨noLoop (by kernel_rfl), (q_skip_eq s i b).trans ?_⟩
    cases hO : okS s i <;> cases hA : lexO (SL s i) <;> simp only [hO, hA, pickA, brC, Bool.and_true, Bool.and_false, Bool.not_true, Bool.not_false, cond_true, cond_false] at h ⊢ <;> cases h <;> rfl
  · cases h
theorem ok_tab4 : EntriesOk Tryd.prog tab4 := ⟨ok_peek, ok_skip, ok_tab3⟩
theorem ok_is : EntryOk Tryd.prog 48 E_is := entry_of mix ok_tab4 (lp := []) (LO := LO0) ⟨Tryd.func48, by kernel_rfl, by kernel_rfl⟩ (by kernel_rfl) fun ivs res bxs h => by
  unfold E_is at h
  split at h
  · rename_i s i b g
    refine ⟨noLoop (by kernel_rfl), (q_is_eq s i b g).trans ?_⟩
    unfold isS at h
    cases hO : okS s i <;> cases hA : lexO (SL s i) <;> cases hK : (lexK (SL s i) == 4) <;> simp only [hO, hA, hK, pickA, brC, Bool.and_true, Bool.and_false, Bool.true_and, Bool.false_and, Bool.not_true, Bool.not_false, cond_true, cond_false] at h ⊢ <;> cases h <;> rfl
  · cases h
theorem ok_name : EntryOk Tryd.prog 49 E_name := entry_of mix ok_tab4 (lp := []) (LO := LO0) ⟨Tryd.func49, by kernel_rfl, by kernel_rfl⟩ (by kernel_rfl) fun ivs res bxs h => by
  unfold E_name at h
  split at h
  · rename_i s i b
    refine ⟨noLoop (by kernel_rfl), (q_name_eq s i b).trans ?_⟩
    unfold nmS at h
    cases hO : okS s i with
    | false => simp only [hO, pickA, Bool.and_true, Bool.and_false, Bool.true_and, Bool.false_and, cond_true, cond_false] at h; cases h
    | true =>
      have hz : decide ((bs (lexT (SL s i))).size ≤ 1048576) = true := decide_eq_true (tx_size hO)
      cases hA : lexO (SL s i) <;> cases hK : (lexK (SL s i) == 1) <;> cases hN : nameB (bs (lexT (SL s i))) <;> simp only [bne, hO, hA, hK, hN, hz, pickA, brC, Bool.and_true, Bool.and_false, Bool.true_and, Bool.false_and, Bool.not_true, Bool.not_false, cond_true, cond_false] at h ⊢ <;> cases h <;> rfl
  · cases h
theorem ok_tab5 : EntriesOk Tryd.prog tab5 := ⟨ok_is, ok_name, ok_tab4⟩
theorem ok_take : EntryOk Tryd.prog 50 E_take := entry_of mix ok_tab5 (lp := []) (LO := LO0) ⟨Tryd.func50, by kernel_rfl, by kernel_rfl⟩ (by kernel_rfl) fun ivs res bxs h => by
  unfold E_take at h
  split at h
  · rename_i s i b g
    refine ⟨noLoop (by kernel_rfl), (q_take_eq s i b g).trans ?_⟩
    cases hO : okS s i <;> cases hA : lexO (SL s i) <;> cases hK : isS (SL s i) g <;> simp only [hO, hA, hK, pickA, brC, Bool.and_true, Bool.and_false, Bool.true_and, Bool.false_and, Bool.not_true, Bool.not_false, cond_true, cond_false] at h ⊢ <;> cases h <;> rfl
  · cases h
theorem ok_tab6 : EntriesOk Tryd.prog tab6 := ⟨ok_take, ok_tab5⟩
theorem isS_nm {l : List UInt8} {g : ByteArray} (h : nmS l = true) : isS l g = false := by
  unfold nmS at h
  unfold isS
  rw [Bool.and_eq_true, beq_iff_eq] at h
  rw [h.1]
  rfl
theorem ok_place : EntryOk Tryd.prog 24 E_place := entry_of mix ok_tab6 (lp := []) (LO := LO0) ⟨Tryd.func24, by kernel_rfl, by kernel_rfl⟩ (by kernel_rfl) fun ivs res bxs h => by
  unfold E_place at h
  split at h
  · rename_i s i b
    refine ⟨noLoop (by kernel_rfl), (q_place_eq s i b).trans ?_⟩
    unfold goodL i1 at h
    cases hO : okS s i with
    | false => simp only [hO, pickA, Bool.and_true, Bool.and_false, Bool.true_and, Bool.false_and, cond_true, cond_false] at h; cases h
    | true =>
      cases hA : lexO (SL s i) with
      | false =>
        simp only [hO, hA, pickA, brC, Bool.and_true, Bool.and_false, Bool.true_and, Bool.false_and, Bool.not_true, Bool.not_false, cond_true, cond_false] at h ⊢
        exact h
      | true =>
        have hO1 := lexE_ok hO hA
        obtain ⟨z1, z2, z3, z4⟩ := place_sizes hO hO1
        cases hS : isS (SL s i) caret with
        | true =>
          cases hA1 : lexO (SL s (lexE (SL s i) i)) <;> cases hN1 : nmS (SL s (lexE (SL s i) i)) <;>
            simp only [hO, hA, hS, hO1, hA1, hN1, z1, z2, z3, z4, pickA, brC, Bool.and_true, Bool.and_false, Bool.true_and, Bool.false_and, Bool.not_true, Bool.not_false, cond_true, cond_false] at h ⊢ <;> exact h
        | false =>
          cases hN : nmS (SL s i) with
          | false =>
            simp only [hO, hA, hS, hN, pickA, brC, Bool.and_true, Bool.and_false, Bool.true_and, Bool.false_and, Bool.not_true, Bool.not_false, cond_true, cond_false] at h ⊢
            exact h
          | true =>
            cases hA1 : lexO (SL s (lexE (SL s i) i)) with
            | false =>
              simp only [hO, hA, hS, hN, hO1, hA1, pickA, brC, Bool.and_true, Bool.and_false, Bool.true_and, Bool.false_and, Bool.not_true, Bool.not_false, cond_true, cond_false] at h ⊢
              exact h
            | true =>
              have hO2 := lexE_ok hO1 hA1
              obtain ⟨y1, y2, y3, y4⟩ := place_sizes hO hO2
              cases hS1 : isS (SL s (lexE (SL s i) i)) caret <;> cases hA2 : lexO (SL s (lexE (SL s (lexE (SL s i) i)) (lexE (SL s i) i))) <;> cases hN2 : nmS (SL s (lexE (SL s (lexE (SL s i) i)) (lexE (SL s i) i))) <;>
                simp only [hO, hA, hS, hN, hO1, hA1, hO2, hS1, hA2, hN2, y1, y2, y3, y4, pickA, brC, Bool.and_true, Bool.and_false, Bool.true_and, Bool.false_and, Bool.not_true, Bool.not_false, cond_true, cond_false] at h ⊢ <;> exact h
  · cases h
theorem ok_tab7' : EntriesOk Tryd.prog ((24, E_place) :: tab6) := ⟨ok_place, ok_tab6⟩
end Go.Proofs.YtjbjgeekglpmlaaDoor
