/- Places read whole, by the reckoner: the program's side, and the law. -/
import Derived.Test.YtjbjgeekglpmlaaDoorPnP
namespace Go.Proofs.YtjbjgeekglpmlaaDoor
open Go.RowKit
set_option linter.unusedVariables false
set_option linter.unusedSimpArgs false

theorem okI_inv {s : ByteArray} {i : Int} (h : okI s i = true) : okS s i = true ∧ s.size ≤ 1000 := by
  unfold okI at h
  rw [Bool.and_eq_true] at h
  exact ⟨h.1, of_decide_eq_true h.2⟩
theorem okI_mk {s : ByteArray} {i : Int} (h : okS s i = true) (h2 : s.size ≤ 1000) : okI s i = true := by
  unfold okI
  rw [h, decide_eq_true h2]
  rfl
theorem ok_nameI0 : EntryOk Tryd.prog 53 E_nameS := ⟨⟨_, Tryd.func53, by kernel_rfl, by kernel_rfl⟩, fun ivs res bxs h => by
  unfold E_nameS at h
  split at h
  · rename_i s
    obtain ⟨hc, he⟩ := pick1 h
    cases he
    have hs : s.size ≤ 1048576 := of_decide_eq_true hc
    refine contract_flat (ps := [.str s]) (v := .bool (nameB s)) rfl fun w com vals hv _ => ?_
    obtain ⟨v, vs, rfl, hv, hn⟩ := hv.of_cons
    rw [hn.of_nil]
    cases hv
    refine (nameOk_any s _ rfl w (by omega)).mono ?_
    rintro e w' ⟨rfl, rfl⟩
    exact ⟨rfl, Below.refl _ _⟩
  · cases h⟩
theorem ok_tokenAt : EntryOk Tryd.prog 19 E_tokenAt := ⟨⟨_, Tryd.func19, by kernel_rfl, by kernel_rfl⟩, fun ivs res bxs h => by
  unfold E_tokenAt at h
  split at h
  · rename_i s i
    obtain ⟨hc, he⟩ := pick1 h
    cases he
    rw [Bool.and_eq_true] at hc
    obtain ⟨ho, hs⟩ := okI_inv hc.1
    have hlt := of_decide_eq_true hc.2
    obtain ⟨k, rfl, hk, _⟩ := okS_inv ho
    refine contract_of (ps := [.str s, .int .i64 k]) fun w com vals hv hfr => ?_
    obtain ⟨v, vs, rfl, hv1, hn1⟩ := hv.of_cons
    obtain ⟨v2, vs2, rfl, hv2, hn2⟩ := hn1.of_cons
    rw [hn2.of_nil]
    obtain rfl : v = .string s := by cases hv1; rfl
    obtain rfl : v2 = .int .i64 k := by cases hv2; rfl
    have hks : k < s.size := by omega
    have hT := tokenAt_any s k w hks hs
    refine Calls.mono hT ?_
    rintro e w' ⟨K, t, n, rfl, ht, rfl, rfl, hb⟩
    have htb : t = bs (tokT (s.data.toList.drop k)) := by rw [← ht, bs_self]
    refine ⟨_, com, rfl, ?_, ⟨fun _ => Nat.le_refl _, fun b i hi => ?_⟩, fun b hs => hfr b (Nat.le_trans hb.size hs), fun _ _ => rfl, hb⟩
    · refine .tup [.agg #[.int .i64 (tokK (s.data.toList.drop k)), .string t, .int .i64 k], .int .i64 (tokN (s.data.toList.drop k))] [.agg [.int .i64 (tokK (SL s k)), .str (bs (tokT (SL s k))), .int .i64 k], .int .i64 (tokN (SL s k))] rfl fun i h h' => ?_
      match i, h with
      | 0, _ =>
        refine .agg [.int .i64 (tokK (s.data.toList.drop k)), .string t, .int .i64 k] [.int .i64 (tokK (SL s k)), .str (bs (tokT (SL s k))), .int .i64 k] rfl ?_ fun i h h' => ?_
        · intro v hv
          rcases List.mem_cons.1 hv with rfl | hv
          · rfl
          · rcases List.mem_cons.1 hv with rfl | hv
            · rfl
            · rcases List.mem_cons.1 hv with rfl | hv
              · rfl
              · cases hv
        · match i, h with
          | 0, _ => exact .int _ _
          | 1, _ => rw [htb]; exact .str _
          | 2, _ => exact .int _ _
      | 1, _ => exact .int _ _
    · have hlt : b < w.heap.size := by
        rcases Nat.lt_or_ge b w.heap.size with h | h
        · exact h
        · rw [hfr b h] at hi; exact absurd hi (Nat.not_lt_zero _)
      exact contract_flatG.cell_of_block (hb.block b hlt)
  · cases h⟩
theorem ok_jab0 : EntriesOk Tryd.prog jab0 := ⟨ok_tokenAt, ok_nameI0, trivial⟩

/-- The lexer's answers behind a place that is not the end. -/
theorem lex_at {s : ByteArray} {i : Int} (h : okS s i = true) (hlt : i < s.size) : SL s i ≠ [] ∧ lexO (SL s i) = !((tokN (SL s i) : Int) == 0) ∧ (tokN (SL s i) ≠ 0 → lexK (SL s i) = tokK (SL s i) ∧ lexT (SL s i) = tokT (SL s i) ∧ lexE (SL s i) i = i + tokN (SL s i)) := by
  obtain ⟨k, rfl, hk, hs⟩ := okS_inv h
  have hl : (SL s k).length = s.size - k := by rw [SL_nat, List.length_drop, len_size]
  have hne : SL s k ≠ [] := by intro e; rw [e] at hl; simp at hl; omega
  refine ⟨hne, ?_, fun hn => ?_⟩
  · unfold lexO
    rw [decide_eq_false hne, Bool.false_or]
    by_cases h0 : tokN (SL s k) = 0
    · rw [h0]; rfl
    · rw [decide_eq_true h0, beq_eq_false_iff_ne.2 (by omega)]; rfl
  · unfold lexK lexT lexE
    rw [if_neg hne, if_neg hne, if_neg hne, if_neg hn, if_neg hn, if_neg hn]
    exact ⟨rfl, rfl, rfl⟩
theorem lex_end {s : ByteArray} {i : Int} (h : okS s i = true) (hge : i ≥ s.size) : i = s.size ∧ lexO (SL s i) = true ∧ lexK (SL s i) = 6 ∧ lexT (SL s i) = [] ∧ lexE (SL s i) i = i := by
  obtain ⟨k, rfl, hk, hs⟩ := okS_inv h
  have hl : SL s k = [] := List.drop_eq_nil_of_le (by rw [len_size]; omega)
  unfold lexO lexK lexT lexE
  rw [hl]
  exact ⟨by omega, rfl, rfl, rfl, rfl⟩
theorem tokK_range (l : List UInt8) : 1 ≤ tokK l ∧ tokK l ≤ 5 := by
  unfold tokK
  split
  · omega
  · split
    · omega
    · split
      · omega
      · split <;> omega
theorem ok_peekI : EntryOk Tryd.prog 51 E_peekI := entry_of mix ok_jab0 (lp := []) (LO := LO0) ⟨Tryd.func51, by kernel_rfl, by kernel_rfl⟩ (by kernel_rfl) fun ivs res bxs h => by
  unfold E_peekI at h
  split at h
  · rename_i s i b
    refine ⟨noLoop (by kernel_rfl), (q_peekI_eq s i b).trans ?_⟩
    cases hI : okI s i with
    | false => simp only [hI, pickA, Bool.false_and, cond_false] at h; cases h
    | true =>
      obtain ⟨hO, hs⟩ := okI_inv hI
      by_cases hge : i ≥ s.size
      · obtain ⟨e1, e2, e3, e4, e5⟩ := lex_end hO hge
        rw [e2, e3, e4, hI] at h
        rw [decide_eq_true hge]
        cases h
        rw [e1]
        rfl
      · obtain ⟨h1, h2, h3⟩ := lex_at hO (by omega)
        rw [decide_eq_false hge, decide_eq_true (show i < s.size by omega)]
        rw [h2, hI] at h
        cases h0 : ((tokN (SL s i) : Int) == 0) with
        | true => rw [h0] at h; cases h; rfl
        | false =>
          obtain ⟨h4, h5, _⟩ := h3 (by have : ¬ ((tokN (SL s i) : Int) = 0) := by simpa using h0
                                       omega)
          rw [h0, h4, h5] at h
          cases h; rfl
  · cases h
theorem ok_jab1 : EntriesOk Tryd.prog jab1 := ⟨ok_peekI, ok_jab0⟩
theorem ok_isI : EntryOk Tryd.prog 25 E_isI := entry_of mix ok_jab1 (lp := []) (LO := LO0) ⟨Tryd.func25, by kernel_rfl, by kernel_rfl⟩ (by kernel_rfl) fun ivs res bxs h => by
  unfold E_isI at h
  split at h
  · rename_i s i b g
    refine ⟨noLoop (by kernel_rfl), (q_isI_eq s i b g).trans ?_⟩
    unfold isS at h
    cases hI : okI s i <;> cases hA : lexO (SL s i) <;> cases hK : (lexK (SL s i) == 4) <;> simp only [hI, hA, hK, pickA, brC, Bool.and_true, Bool.and_false, Bool.true_and, Bool.false_and, Bool.not_true, Bool.not_false, cond_true, cond_false] at h ⊢ <;> cases h <;> rfl
  · cases h
theorem ok_nextI : EntryOk Tryd.prog 52 E_nextI := entry_of mix ok_jab1 (lp := []) (LO := LO0) ⟨Tryd.func52, by kernel_rfl, by kernel_rfl⟩ (by kernel_rfl) fun ivs res bxs h => by
  unfold E_nextI at h
  split at h
  · rename_i s i b
    refine ⟨noLoop (by kernel_rfl), (q_nextI_eq s i b).trans ?_⟩
    cases hI : okI s i with
    | false => simp only [hI, pickA, Bool.false_and, cond_false] at h; cases h
    | true =>
      obtain ⟨hO, hs⟩ := okI_inv hI
      by_cases hge : i ≥ s.size
      · obtain ⟨e1, e2, e3, e4, e5⟩ := lex_end hO hge
        rw [e5, e2, e3, e4, hI] at h
        rw [e2, e3, e4]
        cases h
        rfl
      · obtain ⟨h1, h2, h3⟩ := lex_at hO (by omega)
        cases hA : lexO (SL s i) with
        | false =>
          rw [hI, hA] at h
          cases h; rfl
        | true =>
          rw [hA] at h2
          have h0 : tokN (SL s i) ≠ 0 := by
            intro e; rw [e] at h2; cases h2
          obtain ⟨h4, h5, h6⟩ := h3 h0
          have hK := tokK_range (SL s i)
          obtain ⟨k, rfl, hk, _⟩ := okS_inv hO
          have htn := tokN_le h1
          have hl : (SL s k).length = s.size - k := by rw [SL_nat, List.length_drop, len_size]
          rw [hI, hA, h6] at h
          have k0 : (lexK (SL s k) == 0) = false := by rw [h4]; exact beq_eq_false_iff_ne.2 (by omega)
          have k6 : (lexK (SL s k) == 6) = false := by rw [h4]; exact beq_eq_false_iff_ne.2 (by omega)
          unfold bne
          rw [k0, k6, wrapI (by omega) (by omega), decide_eq_true (show (k : Int) < s.size by omega)]
          cases h; rfl
  · cases h
theorem ok_jab2 : EntriesOk Tryd.prog jab2 := ⟨ok_isI, ok_nextI, ok_jab1⟩
theorem ok_takeI : EntryOk Tryd.prog 27 E_takeI := entry_of mix ok_jab2 (lp := []) (LO := LO0) ⟨Tryd.func27, by kernel_rfl, by kernel_rfl⟩ (by kernel_rfl) fun ivs res bxs h => by
  unfold E_takeI at h
  split at h
  · rename_i s i b g
    refine ⟨noLoop (by kernel_rfl), (q_takeI_eq s i b g).trans ?_⟩
    cases hI : okI s i <;> cases hA : lexO (SL s i) <;> cases hK : isS (SL s i) g <;> simp only [hI, hA, hK, pickA, brC, Bool.and_true, Bool.and_false, Bool.true_and, Bool.false_and, Bool.not_true, Bool.not_false, cond_true, cond_false] at h ⊢ <;> cases h <;> rfl
  · cases h
theorem ok_nameI : EntryOk Tryd.prog 26 E_nameI := entry_of mix ok_jab2 (lp := []) (LO := LO0) ⟨Tryd.func26, by kernel_rfl, by kernel_rfl⟩ (by kernel_rfl) fun ivs res bxs h => by
  unfold E_nameI at h
  split at h
  · rename_i s i b
    refine ⟨noLoop (by kernel_rfl), (q_nameI_eq s i b).trans ?_⟩
    unfold nmS at h
    cases hI : okI s i with
    | false => simp only [hI, pickA, Bool.and_true, Bool.and_false, Bool.true_and, Bool.false_and, cond_true, cond_false] at h; cases h
    | true =>
      have hz : decide ((bs (lexT (SL s i))).size ≤ 1048576) = true := decide_eq_true (tx_size (okI_inv hI).1)
      cases hA : lexO (SL s i) <;> cases hK : (lexK (SL s i) == 1) <;> cases hN : nameB (bs (lexT (SL s i))) <;> simp only [bne, hI, hA, hK, hN, hz, pickA, brC, Bool.and_true, Bool.and_false, Bool.true_and, Bool.false_and, Bool.not_true, Bool.not_false, cond_true, cond_false] at h ⊢ <;> cases h <;> rfl
  · cases h
theorem ok_jab3 : EntriesOk Tryd.prog jab3 := ⟨ok_takeI, ok_nameI, ok_jab2⟩
theorem lexE_okI {s : ByteArray} {i : Int} (h : okI s i = true) (ho : lexO (SL s i) = true) : okI s (lexE (SL s i) i) = true := okI_mk (lexE_ok (okI_inv h).1 ho) (okI_inv h).2
theorem place_sizesI {s : ByteArray} {i j : Int} (h : okI s i = true) (h' : okI s j = true) : (decide (1 + (tx (SL s j)).size ≤ 9223372036854775807) && true) = true ∧ (decide ((tx (SL s i)).size + (caret ++ tx (SL s j)).size ≤ 9223372036854775807) && true) = true ∧
    (decide (0 + (caret ++ tx (SL s j)).size ≤ 9223372036854775807) && true) = true ∧ (decide ((tx (SL s i)).size + 1 ≤ 9223372036854775807) && true) = true ∧ (decide ((tx (SL s i)).size + 0 ≤ 9223372036854775807) && true) = true := by
  obtain ⟨a, b, c, d⟩ := place_sizes (okI_inv h).1 (okI_inv h').1
  refine ⟨a, b, c, d, ?_⟩
  rw [Bool.and_true]
  exact decide_eq_true (by have := tx_size (okI_inv h).1; omega)
theorem ok_placeI : EntryOk Tryd.prog 15 E_placeI := entry_of mix ok_jab3 (lp := []) (LO := LO0) ⟨Tryd.func15, by kernel_rfl, by kernel_rfl⟩ (by kernel_rfl) fun ivs res bxs h => by
  unfold E_placeI at h
  split at h
  · rename_i s i b
    refine ⟨noLoop (by kernel_rfl), (q_placeI_eq s i b).trans ?_⟩
    unfold i1 at h
    cases b with
    | true => simp only [pickA, Bool.not_true, Bool.false_and, cond_false] at h; cases h
    | false =>
    cases hI : okI s i with
    | false => simp only [hI, pickA, Bool.and_true, Bool.and_false, Bool.true_and, Bool.false_and, cond_true, cond_false] at h; cases h
    | true =>
      cases hA : lexO (SL s i) with
      | false =>
        simp only [hI, hA, pickA, brC, Bool.and_true, Bool.and_false, Bool.true_and, Bool.false_and, Bool.not_true, Bool.not_false, cond_true, cond_false] at h ⊢
        exact h
      | true =>
        have hI1 := lexE_okI hI hA
        obtain ⟨z1, z2, z3, z4, z5⟩ := place_sizesI hI hI1
        cases hS : isS (SL s i) caret with
        | true =>
          cases hA1 : lexO (SL s (lexE (SL s i) i)) <;> cases hN1 : nmS (SL s (lexE (SL s i) i)) <;>
            simp only [hI, hA, hS, hI1, hA1, hN1, z1, z2, z3, z4, z5, pickA, brC, Bool.and_true, Bool.and_false, Bool.true_and, Bool.false_and, Bool.not_true, Bool.not_false, cond_true, cond_false] at h ⊢ <;> exact h
        | false =>
          cases hN : nmS (SL s i) with
          | false =>
            simp only [hI, hA, hS, hN, pickA, brC, Bool.and_true, Bool.and_false, Bool.true_and, Bool.false_and, Bool.not_true, Bool.not_false, cond_true, cond_false] at h ⊢
            exact h
          | true =>
            cases hA1 : lexO (SL s (lexE (SL s i) i)) with
            | false =>
              simp only [hI, hA, hS, hN, hI1, hA1, z1, z2, z3, z4, z5, pickA, brC, Bool.and_true, Bool.and_false, Bool.true_and, Bool.false_and, Bool.not_true, Bool.not_false, cond_true, cond_false] at h ⊢
              exact h
            | true =>
              have hI2 := lexE_okI hI1 hA1
              obtain ⟨y1, y2, y3, y4, y5⟩ := place_sizesI hI hI2
              cases hS1 : isS (SL s (lexE (SL s i) i)) caret <;> cases hA2 : lexO (SL s (lexE (SL s (lexE (SL s i) i)) (lexE (SL s i) i))) <;> cases hN2 : nmS (SL s (lexE (SL s (lexE (SL s i) i)) (lexE (SL s i) i))) <;>
                simp only [hI, hA, hS, hN, hI1, hA1, hI2, hS1, hA2, hN2, y1, y2, y3, y4, y5, pickA, brC, Bool.and_true, Bool.and_false, Bool.true_and, Bool.false_and, Bool.not_true, Bool.not_false, cond_true, cond_false] at h ⊢ <;> exact h
  · cases h
theorem ok_jab4 : EntriesOk Tryd.prog jab4 := ⟨ok_placeI, ok_jab3⟩
end Go.Proofs.YtjbjgeekglpmlaaDoor
