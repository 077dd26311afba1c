/- The reference's Tokens, by the reckoner: proofs. -/
import Derived.Test.YtjbjgeekglpmlaaDoorDvT
namespace Go.Proofs.YtjbjgeekglpmlaaDoor
open Go.RowKit
set_option linter.unusedVariables false
set_option linter.unusedSimpArgs false
/-- How the reference's loop ends. -/
def tokSEnd (s : ByteArray) (n : Nat) (l : List PV) (k : Nat) : Ex × LS :=
  if (toksF k (SL s k)).2.2 = true then (.ret, [aL 2 3 31 (n + cntF k (SL s k) + 1) (l ++ (toksF k (SL s k)).1 ++ endC (toksF k (SL s k)).2.1), aI 0])
  else (.ret, [aL 2 3 31 0 [], aI 6])
theorem tokS_loop (s : ByteArray) (hs : s.size ≤ 1000) : ∀ (m k n : Nat) (l : List PV), s.size - k ≤ m → k ≤ s.size → n ≤ k → l.length = n * 3 →
    LoopsTo (rdB brC Tryd.prog tab2 lp_tokS LO_tokS Tryd.f9 5 []) [aS s, aL 4 3 31 n l, aI k] (tokSEnd s n l k) := by
  intro m
  have stop : ∀ (k n : Nat) (l : List PV), k = s.size → n ≤ k → l.length = n * 3 → LoopsTo (rdB brC Tryd.prog tab2 lp_tokS LO_tokS Tryd.f9 5 []) [aS s, aL 4 3 31 n l, aI k] (tokSEnd s n l k) := by
    intro k n l hk hn hl
    have hO : okS s k = true := okS_mk (by omega) (by omega)
    obtain ⟨_, e1, e2, e3, e4⟩ := lex_end hO (by omega)
    have hnil : SL s k = [] := List.drop_eq_nil_of_le (by rw [len_size]; omega)
    have tree := r_tokS_eq s n l k
    have eP : lexP (SL s k) k = k := by unfold lexP; rw [if_pos hnil]
    have e2' : (lexK (SL s k) == 6) = true := by rw [e2]; rfl
    rw [hO, e1, e2', dT (show n + 1 ≤ 140737488351232 by omega), dT (show (n + 1) * 32 ≤ 140737488355328 by omega)] at tree
    refine .done _ _ (tree.trans ?_)
    rw [e2, e3, eP]
    unfold tokSEnd cntF
    rw [hnil, toksF_nil]
    simp only [List.append_nil, List.length_nil, Nat.zero_div, Nat.add_zero]
    rfl
  induction m with
  | zero =>
    intro k n l hm hk hn hl
    exact stop k n l (by omega) hn hl
  | succ m ih =>
    intro k n l hm hk hn hl
    by_cases hlt : k < s.size
    · have hO : okS s k = true := okS_mk hk (by omega)
      obtain ⟨hne, hA, hT⟩ := lex_at hO (by omega)
      have hsl : (SL s k).length = s.size - k := by rw [SL_nat, List.length_drop, len_size]
      have htn := tokN_le hne
      have tree := r_tokS_eq s n l k
      rw [hO, hA] at tree
      by_cases h0 : tokN (SL s k) = 0
      · rw [h0] at tree
        refine .done _ _ (tree.trans ?_)
        unfold tokSEnd
        rw [toksF_bad k hne h0]
        rfl
      · have hz : ((tokN (SL s k) : Int) == 0) = false := beq_eq_false_iff_ne.2 (by omega)
        obtain ⟨h4, h5, h6⟩ := hT h0
        have hP : lexP (SL s k) k = k := by unfold lexP; rw [if_neg hne, if_neg h0]
        have hK := tokK_range (SL s k)
        have k6 : (tokK (SL s k) == 6) = false := beq_eq_false_iff_ne.2 (by omega)
        have hb : Nat.beq (List.length [PV.int IntKind.i64 (tokK (SL s k)), PV.str (bs (tokT (SL s k))), PV.int IntKind.i64 (k : Int)]) (1 * 3) = true := rfl
        rw [hz, h4, h5, h6, hP, hb, k6, dT (show n + 1 ≤ 140737488351232 by omega), dT (show (n + 1) * 32 ≤ 140737488355328 by omega)] at tree
        refine .step _ _ _ tree ?_
        have hk' : k + tokN (SL s k) ≤ s.size := by omega
        have := ih (k + tokN (SL s k)) (n + 1) (l ++ [PV.int IntKind.i64 (tokK (SL s k)), PV.str (bs (tokT (SL s k))), PV.int IntKind.i64 (k : Int)]) (by omega) hk' (by omega) (by simp; omega)
        have hd : SL s ((k + tokN (SL s k) : Nat) : Int) = (SL s k).drop (tokN (SL s k)) := by rw [SL_nat, SL_nat, List.drop_drop]
        have e : tokSEnd s (n + 1) (l ++ [PV.int IntKind.i64 (tokK (SL s k)), PV.str (bs (tokT (SL s k))), PV.int IntKind.i64 (k : Int)]) (k + tokN (SL s k)) = tokSEnd s n l k := by
          unfold tokSEnd cntF
          rw [hd, toksF_step k hne h0]
          simp only [List.append_assoc, List.length_append, List.length_cons, List.length_nil]
          have : ∀ x : Nat, n + 1 + x / 3 = n + (0 + 1 + 1 + 1 + x) / 3 := fun x => by omega
          rw [this]
        rw [e] at this
        exact this
    · exact stop k n l (by omega) hn hl
theorem ok_tokS : EntryOk Tryd.prog 9 E_tokS := entry_of mix ok_tab2 (lp := lp_tokS) (LO := LO_tokS) ⟨Tryd.func9, by kernel_rfl, by kernel_rfl⟩ (by kernel_rfl) fun ivs res bxs h => by
  unfold E_tokS at h
  split at h
  · rename_i s
    refine ⟨oneLoop 5 (by kernel_rfl) (by kernel_rfl) (by kernel_rfl) ?_, (q_tokS_eq s).trans ?_⟩
    · intro ls e ls' hl
      unfold LO_tokS at hl
      split at hl
      · rename_i s x e1 n l i
        have key : okI s i = true → n ≤ i.toNat → Nat.beq l.length (n * 3) = true → LoopsTo (rdB brC Tryd.prog tab2 lp_tokS LO_tokS Tryd.f9 5 []) [aS s, aL 4 3 31 n l, aI i] (tokSEnd s n l i.toNat) := by
          intro h1 h2 h3
          obtain ⟨hO, hs⟩ := okI_inv h1
          obtain ⟨k, rfl, hk, _⟩ := okS_inv hO
          exact tokS_loop s hs _ k n l (Nat.le_refl _) hk h2 (Nat.eq_of_beq_eq_true h3)
        rcases pick2 hl with ⟨hc, he⟩ | ⟨hc1, hc, he⟩
        · cases he
          simp only [Bool.and_eq_true, decide_eq_true_eq] at hc
          obtain ⟨⟨⟨⟨⟨h1, h2⟩, h3⟩, h4⟩, h5⟩, h6⟩ := hc
          have := key h1 h2 h3
          obtain ⟨k, rfl, hk, _⟩ := okS_inv (okI_inv h1).1
          rw [Nat.eq_of_beq_eq_true h4, Nat.eq_of_beq_eq_true h5]
          unfold tokSEnd at this
          rw [Int.toNat_natCast] at this h6
          rw [if_pos h6] at this
          exact this
        · cases he
          rw [hc, Bool.true_and] at hc1
          simp only [Bool.and_eq_true, decide_eq_true_eq] at hc
          obtain ⟨⟨⟨⟨h1, h2⟩, h3⟩, h4⟩, h5⟩ := hc
          have := key h1 h2 h3
          obtain ⟨k, rfl, hk, _⟩ := okS_inv (okI_inv h1).1
          rw [Nat.eq_of_beq_eq_true h4, Nat.eq_of_beq_eq_true h5]
          unfold tokSEnd at this
          rw [Int.toNat_natCast] at this hc1
          rw [if_neg (by rw [hc1]; exact Bool.false_ne_true)] at this
          exact this
      · cases hl
    · by_cases hb : 120 < s.size
      · rw [dT (show (s.size : Int) > 120 by omega)] at h ⊢
        rw [dF (show ¬ (s.size : Int) ≤ 120 by omega)] at h
        cases hz : decide (s.size ≤ 1048576) with
        | true => rw [hz] at h; exact h
        | false => rw [hz] at h; cases h
      · rw [dF (show ¬ (s.size : Int) > 120 by omega)] at h ⊢
        rw [dT (show (s.size : Int) ≤ 120 by omega)] at h
        have hI : okI s 0 = true := okI_mk (okS_mk (k := 0) (Nat.zero_le _) (by omega)) (by omega)
        rw [hI]
        have ha : (toksF 0 (SL s 0)).2.2 = allT s := rfl
        rw [ha]
        cases hall : allT s with
        | true =>
          rw [hall] at h
          refine Eq.trans ?_ h
          show some (IV.tup [IV.cv (CV.lst 3 31 (0 + cntF 0 s.data.toList + 1) ([] ++ (toksF 0 s.data.toList).1 ++ [PV.int IntKind.i64 6, PV.str { data := #[] }, PV.int IntKind.i64 ((toksF 0 s.data.toList).2.1 : Int)]) false), cI 0], []) = some (IV.tup [IV.cv (CV.lst 3 31 (cntT s) (cellsT s) false), cI 0], [])
          unfold cntT cellsT
          rw [Nat.zero_add, List.nil_append]
        | false =>
          rw [hall] at h
          exact h
  · cases h
end Go.Proofs.YtjbjgeekglpmlaaDoor
