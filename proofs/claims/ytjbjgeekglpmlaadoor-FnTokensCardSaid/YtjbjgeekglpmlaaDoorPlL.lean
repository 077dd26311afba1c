/- The reference's lexer, by the reckoner: the token at a place. -/
import Derived.Test.YtjbjgeekglpmlaaDoorPlQ
namespace Go.Proofs.YtjbjgeekglpmlaaDoor
open Go.RowKit
set_option linter.unusedVariables false
set_option linter.unusedSimpArgs false

theorem lex_leaf {l : List UInt8} {i : Int} {K E : Int} {T : ByteArray} (hl : l ≠ []) (hn : tokN l ≠ 0) (hK : tokK l = K) (hT : bs (tokT l) = T) (hE : i + tokN l = E) :
    (some (.tup [.agg [.pv (.int .i64 K), .pv (.str T), .pv (.int .i64 i)], cI E, cB true], []) : Option (IV × List (List CV))) = some (.tup [.agg [.pv (.int .i64 (lexK l)), .pv (.str (bs (lexT l))), .pv (.int .i64 (lexP l i))], cI (lexE l i), cB (lexO l)], []) := by
  have h1 : lexK l = K := by unfold lexK; rw [if_neg hl, if_neg hn]; exact hK
  have h2 : lexT l = tokT l := by unfold lexT; rw [if_neg hl, if_neg hn]
  have h3 : lexP l i = i := by unfold lexP; rw [if_neg hl, if_neg hn]
  have h4 : lexE l i = E := by unfold lexE; rw [if_neg hl, if_neg hn]; exact hE
  have h5 : lexO l = true := by unfold lexO; simp [hn]
  rw [h1, h2, h3, h4, h5, hT]
theorem take_ext (s : ByteArray) (k : Nat) (l : List UInt8) (h : s.data.toList.drop k = l) (j n : Nat) (hj : j = k + n) : bs (l.take n) = s.extract k j := by
  rw [extract_bs, h, hj]
  congr 2
  omega
theorem tokT_take {l : List UInt8} (h : l.headD 0 ≠ 34) : tokT l = l.take (tokN l) := by unfold tokT; rw [if_neg h]

theorem lex_any (s : ByteArray) (k : Nat) (hk : k ≤ s.size) (hs : s.size ≤ 1048576) : q_lex brC s k = some (.tup [.agg [.pv (.int .i64 (lexK (SL s k))), .pv (.str (bs (lexT (SL s k)))), .pv (.int .i64 (lexP (SL s k) k))], cI (lexE (SL s k) k), cB (lexO (SL s k))], []) := by
  rcases drop_cases s k hk with ⟨h1, h2⟩ | ⟨h1, c, h2, h3⟩
  · rw [SL_nat, h2, q_lex_eq]
    simp (disch := omega) only [dT, dF]
    rfl
  · have tree := q_lex_eq s k
    have w1 : IntKind.wrap .i64 ((k : Int) + 1) = ((k + 1 : Nat) : Int) := by rw [wrapI (by omega) (by omega)]; rfl
    have w2 : IntKind.wrap .i64 ((k : Int) + 2) = ((k + 2 : Nat) : Int) := by rw [wrapI (by omega) (by omega)]; rfl
    have o0 : okS s k = true := okS_mk hk hs
    have o1 : okS s ((k + 1 : Nat) : Int) = true := okS_mk h1 hs
    have e46 : ((c.toNat : Int) == 46) = (c == 46) := u8_lit c 46 (by omega)
    have e32 : ((c.toNat : Int) == 32) = (c == 32) := u8_lit c 32 (by omega)
    have e34 : ((c.toNat : Int) == 34) = (c == 34) := u8_lit c 34 (by omega)
    have e37 : ((c.toNat : Int) == 37) = (c == 37) := u8_lit c 37 (by omega)
    have hS : SL s k = c :: s.data.toList.drop (k + 1) := h2
    have hS1 : SL s ((k + 1 : Nat) : Int) = s.data.toList.drop (k + 1) := rfl
    have hhd : (SL s k).headD 0 = c := by rw [hS]; rfl
    have hne : SL s k ≠ [] := by rw [hS]; simp
    have hd1 : List.drop 1 (SL s k) = s.data.toList.drop (k + 1) := by rw [hS]; rfl
    have hcl : c.toNat < 256 := UInt8.toNat_lt c
    have hof : UInt8.ofNat (Int.toNat (c.toNat : Int)) = c := by rw [Int.toNat_natCast, UInt8.ofNat_toNat]
    simp (disch := omega) only [dT, dF, w1, w2, o0, o1, Int.toNat_natCast, h3, e46, e32, e34, e37, letterZ_nat, digitZ_nat, Bool.and_true, Bool.true_and, hS1, hd1, UInt8.ofNat_toNat] at tree
    generalize hL : s.data.toList.drop (k + 1) = L at *
    -- a blank
    by_cases c32 : c = 32
    · subst c32
      have n : tokN (SL s k) = 1 := by unfold tokN; rw [hhd, if_pos rfl]
      refine (tree.trans ?_).trans (lex_leaf (K := 5) (E := ((k + 1 : Nat) : Int)) (T := s.extract k (k + 1)) hne (by rw [n]; decide) (by unfold tokK; rw [hhd, if_pos rfl]) ?_ (by rw [n]; rfl))
      · rfl
      · rw [tokT_take (by rw [hhd]; decide), n]
        exact take_ext s k _ rfl _ _ rfl
    have b32 : (c == 32) = false := by simpa using c32
    -- a text
    by_cases c34 : c = 34
    · subst c34
      refine tree.trans ?_
      have n : tokN (SL s k) = qN L := by unfold tokN; rw [hhd, if_neg (by decide), if_pos rfl, hd1]
      have tT : tokT (SL s k) = qT L := by unfold tokT; rw [hhd, if_pos rfl, hd1]
      cases hq : qR L with
      | none =>
        have hqn : qN L = 0 := by unfold qN; rw [hq]
        have hqt : qT L = [] := by unfold qT; rw [hq]
        unfold lexK lexT lexP lexE lexO
        rw [if_neg hne, if_neg hne, if_neg hne, if_neg hne, n, hqn, if_pos rfl, if_pos rfl, if_pos rfl, if_pos rfl, hhd, if_pos rfl, if_pos rfl]
        have hqe : qE L k = 0 := by unfold qE; rw [hq]; rfl
        rw [hqe, hqt]
        have : decide (SL s k = []) = false := decide_eq_false hne
        rw [this]
        rfl
      | some y =>
        have hqn : qN L = y.2 + 1 := by unfold qN; rw [hq]
        have hqe : qE L k = k + qN L := by unfold qE; rw [hq]; rfl
        rw [hqe]
        exact lex_leaf (K := 3) hne (by rw [n, hqn]; omega) (by unfold tokK; rw [hhd, if_neg (by decide), if_pos rfl]) (by rw [tT]) (by rw [n])
    have b34 : (c == 34) = false := by simpa using c34
    have hT := tokT_take (l := SL s k) (by rw [hhd]; exact c34)
    -- a name
    cases hnm : (letterB c.toNat || c == 37) with
    | true =>
      have hlen : (L.takeWhile nameCh).length ≤ L.length := tw_len_le nameCh L
      have hLl : L.length = s.size - (k + 1) := by rw [← hL, List.length_drop, len_size]
      have n : tokN (SL s k) = 1 + (L.takeWhile nameCh).length := by unfold tokN isName nameLen; rw [hhd, if_neg c32, if_neg c34, if_pos hnm, hd1]
      have b46 : (c == 46) = false := by
        cases h : (c == 46) with
        | false => rfl
        | true => have : c = 46 := by simpa using h
                  subst this; cases hnm
      have e : ((k + 1 : Nat) : Int) + ((L.takeWhile nameCh).length : Int) = ((k + 1 + (L.takeWhile nameCh).length : Nat) : Int) := by omega
      simp (disch := omega) only [b46, b32, b34, e, dT, Int.toNat_natCast, Bool.and_true] at tree
      refine Eq.trans ?_ (lex_leaf (K := 1) (E := ((k + 1 + (L.takeWhile nameCh).length : Nat) : Int)) (T := s.extract k (k + 1 + (L.takeWhile nameCh).length)) hne (by rw [n]; omega) (by unfold tokK isName; rw [hhd, if_neg c32, if_neg c34, if_pos hnm]) ?_ (by rw [n]; omega))
      · rw [tree]
        cases hl : letterB c.toNat with
        | true => rfl
        | false =>
          rw [hl, Bool.false_or] at hnm
          rw [hnm]
          rfl
      · rw [hT, n]
        exact take_ext s k _ rfl _ _ (by omega)
    | false =>
    obtain ⟨hlt, h37⟩ := Bool.or_eq_false_iff.1 hnm
    have hK4 : tokK (SL s k) = if isNumT (SL s k) = true then 2 else 4 := by unfold tokK isName; rw [hhd, if_neg c32, if_neg c34, if_neg (by rw [hnm]; decide)]
    have hN4 : tokN (SL s k) = if isNumT (SL s k) = true then numLen (SL s k) else signLen (SL s k) := by unfold tokN isName; rw [hhd, if_neg c32, if_neg c34, if_neg (by rw [hnm]; decide)]
    have hSl : (SL s k).length = s.size - k := by rw [SL_nat, List.length_drop, len_size]
    have hdc : isDig c = digitB c.toNat := isDig_nat c
    have hnumE : isNumT (SL s k) = (isDig c || (c == 46 && headDig L)) := by unfold isNumT; rw [hhd, hd1]
    have hnext : headDig L = true → k + 1 < s.size ∧ digitB (s.data.toList.getD (k + 1) 0).toNat = true := by
      intro h
      rcases drop_cases s (k + 1) (by omega) with ⟨g1, g2⟩ | ⟨g1, d, g2, g3⟩
      · rw [g2] at hL; rw [← hL] at h; cases h
      · rw [g2] at hL; rw [← hL] at h
        exact ⟨g1, by rw [g3, ← isDig_nat]; exact h⟩
    have hnext2 : headDig L = false → k + 1 < s.size → digitB (s.data.toList.getD (k + 1) 0).toNat = false := by
      intro h hlt
      rcases drop_cases s (k + 1) (by omega) with ⟨g1, g2⟩ | ⟨g1, d, g2, g3⟩
      · omega
      · rw [g2] at hL; rw [← hL] at h
        rw [g3, ← isDig_nat]; exact h
    -- a number
    cases hnum : isNumT (SL s k) with
    | true =>
      rw [hnum, if_pos rfl] at hK4 hN4
      obtain ⟨D, hD⟩ : ∃ D, D = ((SL s k).takeWhile isDig).length := ⟨_, rfl⟩
      have hDl : D ≤ (SL s k).length := by rw [hD]; exact tw_len_le isDig _
      have eD : (k : Int) + (D : Int) = ((k + D : Nat) : Int) := by omega
      rw [← hD] at tree
      have nf : ((c == 46) = false ∧ digitB c.toNat = true) ∨ ((c == 46) = true ∧ digitB c.toNat = false ∧ k + 1 < s.size ∧ digitB (s.data.toList.getD (k + 1) 0).toNat = true) := by
        rw [hnumE, hdc] at hnum
        cases h : digitB c.toNat with
        | true =>
          refine .inl ⟨?_, rfl⟩
          cases h2 : (c == 46) with
          | false => rfl
          | true => have : c = 46 := by simpa using h2
                    subst this; cases h
        | false =>
          rw [h, Bool.false_or, Bool.and_eq_true] at hnum
          exact .inr ⟨hnum.1, rfl, hnext hnum.2⟩
      unfold numLen at hN4
      rw [← hD] at hN4
      have hge : (SL s k)[D]? = s.data.toList[k + D]? := by rw [SL_nat, List.getElem?_drop]
      by_cases hlt2 : k + D < s.size
      · rcases drop_cases s (k + D) (by omega) with ⟨g1, _⟩ | ⟨g1, d, g2, g3⟩
        · omega
        · have w3 : IntKind.wrap .i64 (((k + D : Nat) : Int) + 1) = ((k + D + 1 : Nat) : Int) := by rw [wrapI (by omega) (by omega)]; rfl
          have o3 : okS s ((k + D + 1 : Nat) : Int) = true := okS_mk (by omega) hs
          have d46 : ((d.toNat : Int) == 46) = (d == 46) := u8_lit d 46 (by omega)
          have hgd : (SL s k)[D]? = some d := by
            rw [hge]
            have hlt3 : k + D < s.data.toList.length := by rw [len_size]; omega
            rw [List.getElem?_eq_getElem hlt3]
            rw [List.getD_eq_getElem?_getD, List.getElem?_eq_getElem hlt3] at g3
            exact congrArg some g3
          rw [hgd] at hN4
          have hS3 : SL s ((k + D + 1 : Nat) : Int) = s.data.toList.drop (k + D + 1) := rfl
          obtain ⟨M, hM⟩ : ∃ M, M = ((s.data.toList.drop (k + D + 1)).takeWhile isDig).length := ⟨_, rfl⟩
          have hMl : M ≤ s.size - (k + D + 1) := by rw [hM]; have := tw_len_le isDig (s.data.toList.drop (k + D + 1)); rw [List.length_drop, len_size] at this; exact this
          have eM : ((k + D + 1 : Nat) : Int) + (M : Int) = ((k + D + 1 + M : Nat) : Int) := by omega
          have hdr : (SL s k).drop (D + 1) = s.data.toList.drop (k + D + 1) := by rw [SL_nat, List.drop_drop]; rfl
          simp (disch := omega) only [eD, dT, dF, w3, o3, Int.toNat_natCast, g3, d46, Bool.and_true, Bool.true_and, hS3, ← hM, eM, b32, b34, hlt, h37] at tree
          cases hd : (d == 46) with
          | true =>
            obtain rfl : d = 46 := by simpa using hd
            rw [if_pos rfl, hdr, ← hM] at hN4
            refine Eq.trans ?_ (lex_leaf (K := 2) (E := ((k + D + 1 + M : Nat) : Int)) (T := s.extract k (k + D + 1 + M)) hne (by rw [hN4]; omega) hK4 (by rw [hT, hN4]; exact take_ext s k _ rfl _ _ (by omega)) (by rw [hN4]; omega))
            rw [tree, hd]
            rcases nf with ⟨f1, f2⟩ | ⟨f1, f2, f3, f4⟩
            · rw [f1, f2]; rfl
            · simp (disch := omega) only [f1, f2, f4, dT]; rfl
          | false =>
            have hd' : ¬ (some d = some 46) := by
              intro e
              cases e
              cases hd
            rw [if_neg hd'] at hN4
            have hD0 : D ≠ 0 := by
              intro e
              rcases nf with ⟨f1, f2⟩ | ⟨f1, f2, f3, f4⟩
              · rw [hS, List.takeWhile_cons, hdc, f2] at hD
                simp at hD
                omega
              · rw [e, hS] at hgd
                simp at hgd
                rw [hgd] at f1
                rw [f1] at hd
                cases hd
            refine Eq.trans ?_ (lex_leaf (K := 2) (E := ((k + D : Nat) : Int)) (T := s.extract k (k + D)) hne (by rw [hN4]; exact hD0) hK4 (by rw [hT, hN4]; exact take_ext s k _ rfl _ _ (by omega)) (by rw [hN4]; omega))
            rw [tree, hd]
            rcases nf with ⟨f1, f2⟩ | ⟨f1, f2, f3, f4⟩
            · rw [f1, f2]; rfl
            · simp (disch := omega) only [f1, f2, f4, dT]; rfl
      · have hgn : (SL s k)[D]? = none := by rw [hge]; exact List.getElem?_eq_none (by rw [len_size]; omega)
        rw [hgn, if_neg (by simp)] at hN4
        have hD0 : D ≠ 0 := by omega
        simp (disch := omega) only [eD, dT, dF, Int.toNat_natCast, Bool.and_true, Bool.true_and, b32, b34, hlt, h37] at tree
        refine Eq.trans ?_ (lex_leaf (K := 2) (E := ((k + D : Nat) : Int)) (T := s.extract k (k + D)) hne (by rw [hN4]; exact hD0) hK4 (by rw [hT, hN4]; exact take_ext s k _ rfl _ _ (by omega)) (by rw [hN4]; omega))
        rw [tree]
        rcases nf with ⟨f1, f2⟩ | ⟨f1, f2, f3, f4⟩
        · rw [f1, f2]; rfl
        · simp (disch := omega) only [f1, f2, f4, dT]; rfl
    | false =>
      rw [hnum, if_neg (by decide)] at hK4 hN4
      have nf : digitB c.toNat = false ∧ ((c == 46) = false ∨ ((c == 46) = true ∧ (¬ k + 1 < s.size ∨ (k + 1 < s.size ∧ digitB (s.data.toList.getD (k + 1) 0).toNat = false)))) := by
        rw [hnumE, hdc, Bool.or_eq_false_iff] at hnum
        refine ⟨hnum.1, ?_⟩
        cases h : (c == 46) with
        | false => exact .inl rfl
        | true =>
          rw [h, Bool.true_and] at hnum
          refine .inr ⟨rfl, ?_⟩
          by_cases hlt2 : k + 1 < s.size
          · exact .inr ⟨hlt2, hnext2 hnum.2 hlt2⟩
          · exact .inl hlt2
      unfold signLen at hN4
      rw [hhd] at hN4
      -- what the tree comes to
      have fin : ∀ r, (brC (isTwo (SL s k)) (brC (decide ((k + 2 : Nat) ≤ s.size)) (some (.tup [.agg [.pv (.int .i64 4), .pv (.str (s.extract k (k + 2))), .pv (.int .i64 k)], cI ((k + 2 : Nat) : Int), cB true], [])) none)
          (brC (oneS.contains c) (some (.tup [.agg [.pv (.int .i64 4), .pv (.str (s.extract k (k + 1))), .pv (.int .i64 k)], cI ((k + 1 : Nat) : Int), cB true], [])) (some (.tup [.agg [.pv (.int .i64 0), .pv (.str ⟨#[]⟩), .pv (.int .i64 0)], cI 0, cB false], []))) : Option (IV × List (List CV))) = r → q_lex brC s k = r := by
        intro r hr
        rw [← hr, tree]
        cases ht : isTwo (SL s k) with
        | true =>
          have h2l : k + 2 ≤ s.size := by
            unfold isTwo at ht
            rw [List.any_eq_true] at ht
            obtain ⟨x, hx, hp⟩ := ht
            have h1 : x.length = 2 := by
              have : ∀ x ∈ twoS, x.length = 2 := by decide
              exact this x hx
            have := (List.isPrefixOf_iff_prefix.1 hp).length_le
            omega
          obtain ⟨f2, f1 | ⟨f1, f3 | ⟨f3, f4⟩⟩⟩ := nf
          · simp (disch := omega) only [f1, f2, b32, b34, hlt, h37, dT, dF]; rfl
          · omega
          · simp (disch := omega) only [f1, f2, f4, b32, b34, hlt, h37, dT, dF]; rfl
        | false =>
          obtain ⟨f2, f1 | ⟨f1, f3 | ⟨f3, f4⟩⟩⟩ := nf
          · simp (disch := omega) only [f1, f2, b32, b34, hlt, h37, dT, dF]; rfl
          · simp (disch := omega) only [f1, f2, b32, b34, hlt, h37, dT, dF]; rfl
          · simp (disch := omega) only [f1, f2, f4, b32, b34, hlt, h37, dT, dF]; rfl
      refine fin _ ?_
      cases ht : isTwo (SL s k) with
      | true =>
        rw [ht, if_pos rfl] at hN4
        have h2l : k + 2 ≤ s.size := by
          have := ht
          unfold isTwo at this
          rw [List.any_eq_true] at this
          obtain ⟨x, hx, hp⟩ := this
          have h1 : x.length = 2 := by
            have : ∀ x ∈ twoS, x.length = 2 := by decide
            exact this x hx
          have := (List.isPrefixOf_iff_prefix.1 hp).length_le
          omega
        refine Eq.trans ?_ (lex_leaf (K := 4) (E := ((k + 2 : Nat) : Int)) (T := s.extract k (k + 2)) hne (by rw [hN4]; decide) hK4 (by rw [hT, hN4]; exact take_ext s k _ rfl _ _ (by omega)) (by rw [hN4]; omega))
        simp (disch := omega) only [dT]
        rfl
      | false =>
        rw [ht, if_neg (by decide)] at hN4
        cases ho : oneS.contains c with
        | true =>
          rw [ho, if_pos rfl] at hN4
          refine Eq.trans ?_ (lex_leaf (K := 4) (E := ((k + 1 : Nat) : Int)) (T := s.extract k (k + 1)) hne (by rw [hN4]; decide) hK4 (by rw [hT, hN4]; exact take_ext s k _ rfl _ _ (by omega)) (by rw [hN4]; omega))
          rfl
        | false =>
          rw [ho, if_neg (by decide)] at hN4
          unfold lexK lexT lexP lexE lexO
          rw [if_neg hne, if_neg hne, if_neg hne, if_neg hne, if_pos hN4, if_pos hN4, if_pos hN4, if_pos hN4, hhd, if_neg c34, if_neg c34, decide_eq_false hne, hN4]
          rfl
theorem ok_lex : EntryOk Tryd.prog 20 E_lex := entry_of mix ok_tab1 (lp := []) (LO := LO0) ⟨Tryd.func20, by kernel_rfl, by kernel_rfl⟩ (by kernel_rfl) fun ivs res bxs h => by
  unfold E_lex at h
  split at h
  · rename_i s i
    obtain ⟨hc, he⟩ := pick1 h
    cases he
    obtain ⟨k, rfl, hk, hs⟩ := okS_inv hc
    exact ⟨noLoop (by kernel_rfl), lex_any s k hk hs⟩
  · cases h
theorem ok_tab2 : EntriesOk Tryd.prog tab2 := ⟨ok_lex, ok_tab1⟩
end Go.Proofs.YtjbjgeekglpmlaaDoor
