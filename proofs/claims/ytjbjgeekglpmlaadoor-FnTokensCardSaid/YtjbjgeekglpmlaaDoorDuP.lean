/- Tokens of a line, both sides, by the reckoner: proofs. -/
import Derived.Test.YtjbjgeekglpmlaaDoorDuT
namespace Go.Proofs.YtjbjgeekglpmlaaDoor
open Go.RowKit
set_option linter.unusedVariables false
set_option linter.unusedSimpArgs false

theorem toksF_nil (p : Nat) : toksF p [] = ([], p, true) := by rw [toksF]; simp
theorem toksF_bad {l : List UInt8} (p : Nat) (h : l ≠ []) (h2 : tokN l = 0) : toksF p l = ([], p, false) := by rw [toksF, dif_neg h, dif_pos h2]
theorem toksF_step {l : List UInt8} (p : Nat) (h : l ≠ []) (h2 : tokN l ≠ 0) : toksF p l = ([.int .i64 (tokK l), .str (bs (tokT l)), .int .i64 p] ++ (toksF (p + tokN l) (l.drop (tokN l))).1, (toksF (p + tokN l) (l.drop (tokN l))).2) := by
  rw [toksF, dif_neg h, dif_neg h2]
/-- How the loop ends. -/
def tokEnd (s : ByteArray) (n : Nat) (l : List PV) (k : Nat) : Ex × LS :=
  if (toksF k (SL s k)).2.2 = true then (.exit 0, [aX, aX, aL 4 3 31 (n + cntF k (SL s k)) (l ++ (toksF k (SL s k)).1), aI (toksF k (SL s k)).2.1])
  else (.ret, [(.pv .nils, none), aI 6, aL 4 3 31 (n + cntF k (SL s k)) (l ++ (toksF k (SL s k)).1), aI (toksF k (SL s k)).2.1])
theorem tokI_loop (s : ByteArray) (hs : s.size ≤ 1000) : ∀ (m k n : Nat) (l : List PV), s.size - k ≤ m → k ≤ s.size → n ≤ k → l.length = n * 3 →
    LoopsTo (rdB brC Tryd.prog jab0 lp_tokI LO_tokI Tryd.f8 4 []) [aS s, aL 4 3 31 n l, aI k] (tokEnd s n l k) := by
  intro m
  induction m with
  | zero =>
    intro k n l hm hk hn hl
    have hnil : SL s k = [] := List.drop_eq_nil_of_le (by rw [len_size]; omega)
    refine .done _ _ ((r_tokI_eq s n l k).trans ?_)
    unfold tokEnd cntF
    rw [hnil, toksF_nil]
    simp (disch := omega) only [dF, List.append_nil, List.length_nil, Nat.zero_div, Nat.add_zero]
    rfl
  | succ m ih =>
    intro k n l hm hk hn hl
    by_cases hlt : k < s.size
    · have hO : okS s k = true := okS_mk hk (by omega)
      have hI : okI s k = true := okI_mk hO hs
      obtain ⟨hne, _, _⟩ := lex_at hO (by omega)
      have hsl : (SL s k).length = s.size - k := by rw [SL_nat, List.length_drop, len_size]
      have htn := tokN_le hne
      have tree := r_tokI_eq s n l k
      have hb : Nat.beq (List.length [PV.int IntKind.i64 (tokK (SL s k)), PV.str (bs (tokT (SL s k))), PV.int IntKind.i64 (k : Int)]) (1 * 3) = true := rfl
      rw [dT (show (k : Int) < s.size by omega), hI, hb, wrapI (by omega) (by omega), dT (show n + 1 ≤ 140737488351232 by omega), dT (show (n + 1) * 32 ≤ 140737488355328 by omega)] at tree
      by_cases h0 : tokN (SL s k) = 0
      · rw [h0] at tree
        refine .done _ _ (tree.trans ?_)
        unfold tokEnd cntF
        rw [toksF_bad k hne h0]
        simp only [List.append_nil, List.length_nil, Nat.zero_div, Nat.add_zero]
        rfl
      · have hz : ((tokN (SL s k) : Int) == 0) = false := beq_eq_false_iff_ne.2 (by omega)
        rw [hz] at tree
        refine .step _ _ _ tree ?_
        have hk' : k + tokN (SL s k) ≤ s.size := by omega
        have := ih (k + tokN (SL s k)) (n + 1) (l ++ [PV.int IntKind.i64 (tokK (SL s k)), PV.str (bs (tokT (SL s k))), PV.int IntKind.i64 (k : Int)]) (by omega) hk' (by omega) (by simp; omega)
        have hd : SL s ((k + tokN (SL s k) : Nat) : Int) = (SL s k).drop (tokN (SL s k)) := by rw [SL_nat, SL_nat, List.drop_drop]
        have e : tokEnd s (n + 1) (l ++ [PV.int IntKind.i64 (tokK (SL s k)), PV.str (bs (tokT (SL s k))), PV.int IntKind.i64 (k : Int)]) (k + tokN (SL s k)) = tokEnd s n l k := by
          unfold tokEnd cntF
          rw [hd, toksF_step k hne h0]
          simp only [List.append_assoc, List.length_append, List.length_cons, List.length_nil]
          have : ∀ x : Nat, n + 1 + x / 3 = n + (0 + 1 + 1 + 1 + x) / 3 := fun x => by omega
          rw [this]
        rw [e] at this
        exact this
    · have hnil : SL s k = [] := List.drop_eq_nil_of_le (by rw [len_size]; omega)
      refine .done _ _ ((r_tokI_eq s n l k).trans ?_)
      unfold tokEnd cntF
      rw [hnil, toksF_nil]
      simp (disch := omega) only [dF, List.append_nil, List.length_nil, Nat.zero_div, Nat.add_zero]
      rfl
def allT (s : ByteArray) : Bool := (toksF 0 s.data.toList).2.2
def cellsT (s : ByteArray) : List PV := (toksF 0 s.data.toList).1 ++ [.int .i64 6, .str ⟨#[]⟩, .int .i64 (toksF 0 s.data.toList).2.1]
def cntT (s : ByteArray) : Nat := cntF 0 s.data.toList + 1
def E_tokI : Entry := fun ivs => match ivs with
  | [.cv (.pv (.str s))] => [(decide ((s.size : Int) > 120), .tup [.cv (.pv .nils), cI 4], []), (allT s, .tup [.cv (.lst 3 31 (cntT s) (cellsT s) false), cI 0], []), (true, .tup [.cv (.pv .nils), cI 6], [])]
  | _ => []
theorem toksF_cells : ∀ (m : Nat) (l : List UInt8) (p : Nat), l.length ≤ m → (toksF p l).1.length = cntF p l * 3 ∧ cntF p l ≤ l.length := by
  intro m
  induction m with
  | zero =>
    intro l p h
    have : l = [] := List.length_eq_zero_iff.1 (by omega)
    subst this
    unfold cntF
    rw [toksF_nil]
    simp
  | succ m ih =>
    intro l p h
    by_cases h1 : l = []
    · subst h1
      unfold cntF
      rw [toksF_nil]
      simp
    · by_cases h2 : tokN l = 0
      · unfold cntF
        rw [toksF_bad p h1 h2]
        simp
      · have hle := tokN_le h1
        have := ih (l.drop (tokN l)) (p + tokN l) (by rw [List.length_drop]; omega)
        unfold cntF at this ⊢
        rw [toksF_step p h1 h2]
        rw [List.length_drop] at this
        simp only [List.length_append, List.length_cons, List.length_nil]
        omega
theorem ok_tokI : EntryOk Tryd.prog 8 E_tokI := entry_of mix ok_jab0 (lp := lp_tokI) (LO := LO_tokI) ⟨Tryd.func8, by kernel_rfl, by kernel_rfl⟩ (by kernel_rfl) fun ivs res bxs h => by
  unfold E_tokI at h
  split at h
  · rename_i s
    refine ⟨oneLoop 4 (by kernel_rfl) (by kernel_rfl) (by kernel_rfl) ?_, (q_tokI_eq s).trans ?_⟩
    · intro ls e ls' hl
      unfold LO_tokI at hl
      split at hl
      · rename_i s x e1 n l i
        have key : okI s i = true → n ≤ i.toNat → Nat.beq l.length (n * 3) = true → LoopsTo (rdB brC Tryd.prog jab0 lp_tokI LO_tokI Tryd.f8 4 []) [aS s, aL 4 3 31 n l, aI i] (tokEnd s n l i.toNat) := by
          intro h1 h2 h3
          obtain ⟨hO, hs⟩ := okI_inv h1
          obtain ⟨k, rfl, hk, _⟩ := okS_inv hO
          exact tokI_loop s hs _ k n l (Nat.le_refl _) hk h2 (Nat.eq_of_beq_eq_true h3)
        rcases pick2 hl with ⟨hc, he⟩ | ⟨hc1, hc, he⟩
        · cases he
          simp only [Bool.and_eq_true, decide_eq_true_eq] at hc
          obtain ⟨⟨⟨⟨⟨h1, h2⟩, h3⟩, h4⟩, h5⟩, h6⟩ := hc
          have := key h1 h2 h3
          obtain ⟨k, rfl, hk, _⟩ := okS_inv (okI_inv h1).1
          rw [Nat.eq_of_beq_eq_true h4, Nat.eq_of_beq_eq_true h5]
          unfold tokEnd at this
          rw [Int.toNat_natCast] at this h6
          rw [if_pos h6] at this
          exact this
        · cases he
          rw [hc, Bool.true_and] at hc1
          simp only [Bool.and_eq_true, decide_eq_true_eq] at hc
          obtain ⟨⟨⟨⟨h1, h2⟩, h3⟩, h4⟩, h5⟩ := hc
          have := key h1 h2 h3
          obtain ⟨k, rfl, hk, _⟩ := okS_inv (okI_inv h1).1
          rw [Nat.eq_of_beq_eq_true h4, Nat.eq_of_beq_eq_true h5]
          unfold tokEnd at this
          rw [Int.toNat_natCast] at this hc1
          rw [if_neg (by rw [hc1]; exact Bool.false_ne_true)] at this
          exact this
      · cases hl
    · by_cases hb : 120 < s.size
      · rw [dT (show (s.size : Int) > 120 by omega)] at h ⊢
        exact h
      · rw [dF (show ¬ (s.size : Int) > 120 by omega)] at h ⊢
        have hI : okI s 0 = true := okI_mk (okS_mk (k := 0) (Nat.zero_le _) (by omega)) (by omega)
        have hcell := toksF_cells _ s.data.toList 0 (Nat.le_refl _)
        have hlen := len_size s
        have hcn : cntF 0 (SL s 0) = cntT s - 1 := rfl
        have d1 : decide (0 + cntF 0 (SL s 0) + 1 ≤ 140737488351232) = true := dT (by show 0 + cntF 0 s.data.toList + 1 ≤ _; omega)
        have d2 : decide ((0 + cntF 0 (SL s 0) + 1) * 32 ≤ 140737488355328) = true := dT (by show (0 + cntF 0 s.data.toList + 1) * 32 ≤ _; omega)
        rw [hI, d1, d2]
        have ha : (toksF 0 (SL s 0)).2.2 = allT s := rfl
        rw [ha]
        cases hall : allT s with
        | true =>
          rw [hall] at h
          refine Eq.trans ?_ h
          show some (IV.tup [IV.cv (CV.lst 3 31 (0 + cntF 0 s.data.toList + 1) ([] ++ (toksF 0 s.data.toList).1 ++ [PV.int IntKind.i64 6, PV.str { data := #[] }, PV.int IntKind.i64 ((toksF 0 s.data.toList).2.1 : Int)]) false), cI 0], []) = some (IV.tup [IV.cv (CV.lst 3 31 (cntT s) (cellsT s) false), cI 0], [])
          unfold cntT cellsT
          rw [Nat.zero_add, List.nil_append]
        | false =>
          rw [hall] at h
          exact h
  · cases h
end Go.Proofs.YtjbjgeekglpmlaaDoor
