/- The law FnTokens, by the reckoner: proofs. -/
import Derived.Test.YtjbjgeekglpmlaaDoorDwT
import Derived.Test.YtjbjgeekglpmlaaDoorVxO
namespace Go.Proofs.YtjbjgeekglpmlaaDoor
open Go.RowKit
set_option linter.unusedVariables false
set_option linter.unusedSimpArgs false

theorem bs_len (l : List UInt8) : (bs l).size = l.length := by show l.toArray.size = _; simp
theorem bs_app (a b : List UInt8) : bs a ++ bs b = bs (a ++ b) := by
  rw [← bs_self (bs a ++ bs b), ByteArray.data_append, Array.toList_append]
  rfl
theorem ok_quoteI : EntryOk Tryd.prog 12 E_quoteI := ⟨⟨_, Tryd.func12, by kernel_rfl, by kernel_rfl⟩, fun ivs res bxs h => by
  unfold E_quoteI at h
  split at h
  · rename_i s
    obtain ⟨hc, he⟩ := pick1 h
    cases he
    refine contract_flatG (ps := [.str s]) (v := .string (quoteV s)) rfl fun w com vals hv _ hgl => ?_
    obtain ⟨v, vs, rfl, hv1, hn1⟩ := hv.of_cons
    rw [hn1.of_nil]
    obtain rfl : v = .string s := by cases hv1; rfl
    refine Calls.mono (QuoteText_any s w (of_decide_eq_true hc) (by obtain ⟨m, hm, _⟩ := hgl.1; exact ⟨m, hm⟩)) ?_
    rintro e w' ⟨r, hr, rfl, hb⟩
    refine ⟨?_, hb⟩
    rw [← bs_self r, hr]
    rfl
  · cases h⟩
theorem ok_unquote : EntryOk Tryd.prog 11 E_unquote := ⟨⟨_, Tryd.func11, by kernel_rfl, by kernel_rfl⟩, fun ivs res bxs h => by
  unfold E_unquote at h
  split at h
  · rename_i u
    obtain ⟨hc, he⟩ := pick1 h
    cases he
    rw [Bool.and_eq_true] at hc
    have hx := of_decide_eq_true hc.2
    refine fun w com vals bs' hI hnd hfr hgl => ?_
    obtain ⟨hv, rfl⟩ := ivs_inv (ps := [.str u]) hI
    obtain ⟨v, vs, rfl, hv1, hn1⟩ := hv.of_cons
    rw [hn1.of_nil]
    obtain rfl : v = .string u := by cases hv1; rfl
    refine Calls.mono (UnquoteText_quote (unqV u) u w (of_decide_eq_true hc.1) hx) ?_
    rintro e w' ⟨⟨r, hr, rfl⟩, hb⟩
    have hr' : r = bs (unqV u) := by rw [← hr, bs_self]
    subst hr'
    refine ⟨_, com, [], [], rfl, ⟨fun _ => Nat.le_refl _, fun b i hi => ?_⟩, ⟨hb.os, hb.tape, hb.output, hb.size, fun b hlt _ => hb.block b hlt⟩, fun b hs => hfr b (Nat.le_trans hb.size hs), fun _ _ _ => rfl, .tup [_, _] _ [] (.cons (.cv _ _ _ (.pv _ _ (.str _))) (.cons (.cv _ _ _ (.pv _ _ (.int _ _))) .nil)), .other _ _ _ _ _ _ rfl .nil, List.nodup_nil, by simp⟩
    have hlt : b < w.heap.size := by
      rcases Nat.lt_or_ge b w.heap.size with h | h
      · exact h
      · rw [hfr b h] at hi; exact absurd hi (Nat.not_lt_zero _)
    exact contract_flatG.cell_of_block (hb.block b hlt)
  · cases h⟩
theorem ok_ttext : EntryOk Tryd.prog 10 E_ttext := ⟨⟨_, Tryd.func10, by kernel_rfl, by kernel_rfl⟩, fun ivs res bxs h => by
  unfold E_ttext at h
  split at h
  · rename_i k t p
    obtain ⟨hc, he⟩ := pick1 h
    cases he
    refine contract_flatG (ps := [.agg [.int .i64 k, .str t, .int .i64 p]]) (v := .string (bs (tokW k t.data.toList))) rfl fun w com vals hv _ hgl => ?_
    obtain ⟨v, vs, rfl, hv1, hn1⟩ := hv.of_cons
    rw [hn1.of_nil]
    obtain rfl : v = .agg #[.int .i64 k, .string t, .int .i64 p] := by
      cases hv1 with
      | agg cs l hl h1 he =>
        match cs, hl with
        | [a, b, c], _ =>
          have e0 := he 0 (by simp) (by simp)
          have e1 := he 1 (by simp) (by simp)
          have e2 := he 2 (by simp) (by simp)
          simp only [List.getElem_cons_zero, List.getElem_cons_succ] at e0 e1 e2
          cases e0; cases e1; cases e2; rfl
    refine Calls.mono (TokenText_any k t p w (of_decide_eq_true hc) (by obtain ⟨m, hm, _⟩ := hgl.1; exact ⟨m, hm⟩)) ?_
    rintro e w' ⟨r, hr, rfl, hb⟩
    refine ⟨?_, hb⟩
    rw [← bs_self r, hr]
  · cases h⟩
theorem ok_kab0 : EntriesOk Tryd.prog kab0 := ⟨ok_chars, ok_tokI, ok_tokS, ok_ttext, ok_quoteI, ok_unquote, trivial⟩
theorem tokT_len {s : ByteArray} {k : Nat} (h : okS s k = true) (hlt : k < s.size) (hn : tokN (SL s k) ≠ 0) : (bs (tokT (SL s k))).size ≤ s.size := by
  obtain ⟨h1, h2, h3⟩ := lex_at h (by omega)
  have := tx_le h
  unfold tx at this
  rw [(h3 hn).2.1] at this
  exact this
theorem ltok_loop (s : ByteArray) (hs : s.size ≤ 120) : ∀ (m p i : Nat), s.size - p ≤ m → p ≤ s.size → i ≤ p → (toksF p (SL s p)).2.2 = true →
    (cellsT s).drop (i * 3) = (toksF p (SL s p)).1 ++ [.int .i64 6, .str ⟨#[]⟩, .int .i64 (toksF p (SL s p)).2.1] → cntT s = i + cntF p (SL s p) + 1 →
    LoopsTo (rdB brC Tryd.prog kab0 lp_ltok LO_ltok Tryd.f4 10 []) [aS s, aL 4 3 31 (cntT s) (cellsT s), aS (bs (s.data.toList.take p)), aI i] (.exit 0, [aX, aS s, aL 4 3 31 (cntT s) (cellsT s), aS s]) := by
  intro m
  have stop : ∀ (p i : Nat), p = s.size → i ≤ p → (cellsT s).drop (i * 3) = (toksF p (SL s p)).1 ++ [.int .i64 6, .str ⟨#[]⟩, .int .i64 (toksF p (SL s p)).2.1] → cntT s = i + cntF p (SL s p) + 1 →
      LoopsTo (rdB brC Tryd.prog kab0 lp_ltok LO_ltok Tryd.f4 10 []) [aS s, aL 4 3 31 (cntT s) (cellsT s), aS (bs (s.data.toList.take p)), aI i] (.exit 0, [aX, aS s, aL 4 3 31 (cntT s) (cellsT s), aS s]) := by
    intro p i hp hi hd hc
    have hnil : SL s p = [] := List.drop_eq_nil_of_le (by rw [len_size]; omega)
    unfold cntF at hc
    rw [hnil, toksF_nil] at hd hc
    have hc' : cntT s = i + 1 := by simpa using hc
    have hbs : bs (s.data.toList.take p) = s := by rw [List.take_of_length_le (by rw [len_size]; omega), bs_self]
    rw [hbs]
    have tree := r_ltok_eq s (cntT s) (cellsT s) s i
    have z1 : ((p : Int) != (s.size : Int)) = false := by rw [hp]; simp
    simp (disch := omega) only [dT, Int.toNat_natCast, hd, List.nil_append, List.headD_cons, List.tail_cons, List.drop_succ_cons, List.drop_zero, List.length_cons, List.length_nil, PV.isInt, PV.isStr, PV.asInt, PV.asStr, z1, wrapI] at tree
    have b1 : (s ++ bs (tokW 6 [])) = s := by
      have : bs (tokW 6 []) = (⟨#[]⟩ : ByteArray) := rfl
      rw [this]
      exact ByteArray.append_empty
    have z2 : decide (s.size + (bs (tokW 6 [])).size ≤ 9223372036854775807) = true := dT (by show s.size + 0 ≤ _; omega)
    have i1 : (i : Int) + 1 = ((i + 1 : Nat) : Int) := by omega
    rw [z2, b1, i1] at tree
    refine .step _ [aS s, aL 4 3 31 (cntT s) (cellsT s), aS s, aI ((i + 1 : Nat) : Int)] _ tree ?_
    refine .done _ _ ((r_ltok_eq s (cntT s) (cellsT s) s ((i + 1 : Nat) : Int)).trans ?_)
    rw [dF (show ¬ ((i + 1 : Nat) : Int) < (cntT s : Int) by omega)]
    rfl
  induction m with
  | zero =>
    intro p i hm hp hi ha hd hc
    exact stop p i (by omega) hi hd hc
  | succ m ih =>
    intro p i hm hp hi ha hd hc
    by_cases hlt : p < s.size
    · have hO : okS s p = true := okS_mk hp (by omega)
      obtain ⟨hne, _, _⟩ := lex_at hO (by omega)
      have hsl : (SL s p).length = s.size - p := by rw [SL_nat, List.length_drop, len_size]
      have htn := tokN_le hne
      by_cases h0 : tokN (SL s p) = 0
      · rw [toksF_bad p hne h0] at ha; cases ha
      · have hTl := tokT_len hO hlt h0
        have hw := tokW_take hne h0
        have hdp : SL s ((p + tokN (SL s p) : Nat) : Int) = (SL s p).drop (tokN (SL s p)) := by rw [SL_nat, SL_nat, List.drop_drop]
        have hcell := toksF_cells _ ((SL s p).drop (tokN (SL s p))) (p + tokN (SL s p)) (Nat.le_refl _)
        have hcf : cntF p (SL s p) = cntF (p + tokN (SL s p)) ((SL s p).drop (tokN (SL s p))) + 1 := by
          unfold cntF
          rw [toksF_step p hne h0]
          simp only [List.length_append, List.length_cons, List.length_nil]
          omega
        rw [toksF_step p hne h0] at ha hd
        simp only [List.cons_append, List.nil_append] at hd
        have tree := r_ltok_eq s (cntT s) (cellsT s) (bs (s.data.toList.take p)) i
        have hsz : (bs (s.data.toList.take p)).size = p := by rw [bs_len, List.length_take, len_size]; omega
        have z1 : ((p : Int) != (p : Int)) = false := by simp
        simp (disch := omega) only [dT, Int.toNat_natCast, hd, List.headD_cons, List.tail_cons, List.drop_succ_cons, List.drop_zero, List.length_cons, PV.isInt, PV.isStr, PV.asInt, PV.asStr, hsz, z1, wrapI] at tree
        have hw' : bs (tokW (tokK (SL s p)) (Array.toList (ByteArray.data (bs (tokT (SL s p)))))) = bs ((SL s p).take (tokN (SL s p))) := by
          have : Array.toList (ByteArray.data (bs (tokT (SL s p)))) = tokT (SL s p) := by unfold bs; simp
          rw [this, hw]
        have happ : bs (s.data.toList.take p) ++ bs ((SL s p).take (tokN (SL s p))) = bs (s.data.toList.take (p + tokN (SL s p))) := by
          rw [bs_app, SL_nat, List.take_add]
        have z2 : decide (p + (bs ((SL s p).take (tokN (SL s p)))).size ≤ 9223372036854775807) = true := dT (by rw [bs_len, List.length_take]; omega)
        have z3 : ∀ n : Nat, Nat.ble 3 (n + 1 + 1 + 1) = true := fun n => Nat.ble_eq_true_of_le (by omega)
        have z4 : ∀ n : Nat, Nat.blt 0 (n + 1) = true := fun n => Nat.ble_eq_true_of_le (by omega)
        rw [hw', z2, z3, z4, happ] at tree
        refine .step _ [aS s, aL 4 3 31 (cntT s) (cellsT s), aS (bs (s.data.toList.take (p + tokN (SL s p)))), aI ((i + 1 : Nat) : Int)] _ tree ?_
        refine ih (p + tokN (SL s p)) (i + 1) (by omega) (by omega) (by omega) (by rw [hdp]; exact ha) ?_ (by rw [hdp]; omega)
        rw [hdp, show (i + 1) * 3 = i * 3 + 3 by omega, ← List.drop_drop, hd]
        rfl
    · exact stop p i (by omega) hi hd hc
theorem unq_quote (s : ByteArray) : unqV (quoteV s) = s.data.toList := by
  unfold unqV quoteV
  have : (bs (34 :: (dbl s.data.toList ++ [34]))).data.toList = 34 :: (dbl s.data.toList ++ [34]) := by unfold bs; simp
  rw [this, List.drop_succ_cons, List.drop_zero]
  unfold qT
  rw [qR_dbl]
theorem lineV_size {n : Nat} {l : List PV} (hw : wfB n l = true) (k : Nat) : (lineV l k).size ≤ 1048576 := by
  have hp := pickV_range hw k (m := 10) (by omega)
  have h1 := pieces_size l (lnI l k) (k + 1)
  have hT : (lnT l k).size ≤ 100 := by
    unfold lnT
    have : (nostr0 ++ piecesV l (k + 1) (lnI l k)).size = 0 + (piecesV l (k + 1) (lnI l k)).size := ByteArray.size_append
    have : lnI l k ≤ 9 := by unfold lnI; omega
    omega
  unfold lineV
  split
  · have := text_size (t := l6L) (m := 10) (by kernel_rfl) l (lnK l k + 1)
    rw [ByteArray.size_append]
    omega
  · split
    · have := text_size (t := l3L) (m := 10) (by kernel_rfl) l (lnK l k + 1)
      have := pad_size (lnT l k)
      rw [ByteArray.size_append]
      omega
    · omega
theorem ltok_any (n : Nat) (l : List PV) (hw : wfB n l = true) : q_ltok brC n l = some (cB true, []) := by
  refine (q_ltok_eq n l).trans ?_
  by_cases hn : (n : Int) > 1048576
  · rw [dT hn]; rfl
  rw [dF hn, hw, dT (show n ≤ 1048576 by omega)]
  have hz := lineV_size hw 0
  generalize lineV l 0 = s at hz ⊢
  by_cases hb : (s.size : Int) > 120
  · rw [dT hb, dF (show ¬ (s.size : Int) ≤ 120 by omega)]
    rw [dT hz]
    rfl
  rw [dF hb, dT (show (s.size : Int) ≤ 120 by omega)]
  cases hall : allT s with
  | false => rfl
  | true =>
    have hq := unq_quote s
    have hcell := toksF_cells _ s.data.toList 0 (Nat.le_refl _)
    have hlen := len_size s
    have hqs : (quoteV s).size ≤ 1000 := by
      unfold quoteV
      rw [bs_len]
      have := dbl_len s.data.toList
      simp only [List.length_cons, List.length_append, List.length_nil]
      omega
    have e1 : (s.toList == s.toList) = true := by simp
    have e2 : ((bs (s.data.toList)).toList == s.toList) = true := by rw [bs_self]; simp
    have hcn : cntT s = cntF 0 s.data.toList + 1 := rfl
    have hb1 : Nat.beq (cntT s) (cntT s) = true := Nat.beq_refl _
    have hdr : (cellsT s).drop (cntF 0 s.data.toList * 3) = [.int .i64 6, .str ⟨#[]⟩, .int .i64 (toksF 0 s.data.toList).2.1] := by
      unfold cellsT
      rw [← hcell.1]
      exact List.drop_left
    have w1 : IntKind.wrap .i64 ((cntT s : Int) - 1) = ((cntF 0 s.data.toList : Nat) : Int) := by rw [wrapI (by omega) (by omega)]; omega
    have d3 : decide (34 :: (dbl (Array.toList (ByteArray.data s)) ++ [34]) = 34 :: (dbl (Array.toList (ByteArray.data s)) ++ [34])) = true := dT rfl
    rw [hb1, sameL_rfl, hq, d3, w1, Int.toNat_natCast, hdr, e1, e2, dT (show s.size ≤ 120 by omega), dT (show s.size ≤ 1000 by omega), dT hqs, dT (show (cntT s : Int) > 0 by omega), dT (show (0 : Int) ≤ ((cntF 0 s.data.toList : Nat) : Int) by omega), dT (show ((cntF 0 s.data.toList : Nat) : Int) < (cntT s : Int) by omega)]
    rfl
end Go.Proofs.YtjbjgeekglpmlaaDoor
