/- Patterns: what is right, by the reckoner: proofs. -/
import Derived.Test.YtdegegajoccdjaaGdT
namespace Go.Proofs.Ytdegegajoccdjaa
open Go.RowKit
set_option linter.unusedVariables false
set_option linter.unusedSimpArgs false
set_option maxRecDepth 100000

theorem ok_IdxB : EntryOk Try.prog 64 E_IdxB := ⟨⟨_, Try.func64, by kernel_rfl, by kernel_rfl⟩, fun ivs res bxs h => by
  unfold E_IdxB at h
  split at h
  · rename_i a c
    cases h
    refine contract_flat (ps := [.str a, .int .u8 c]) (v := .int .i64 (Lib.indexByte a.data.toList c.toNat.toUInt8)) rfl fun w com vals hv _ => ?_
    obtain ⟨v, vs, rfl, hv1, hn⟩ := hv.of_cons
    obtain ⟨v2, vs2, rfl, hv2, hn2⟩ := hn.of_cons
    rw [hn2.of_nil]
    cases hv1
    cases hv2
    refine (Try.strings_IndexByte a c w).mono ?_
    rintro e w' ⟨rfl, rfl⟩
    exact ⟨rfl, Below.refl _ _⟩
  · cases h⟩
theorem ok_gdb0 : EntriesOk Try.prog gdb0 := ⟨ok_IdxB, trivial⟩
theorem ok_within : EntryOk Try.prog 37 E_within := entry_of mix (tab := []) trivial (lp := []) (LO := LO0) ⟨Try.func37, by kernel_rfl, by kernel_rfl⟩ (by kernel_rfl) fun ivs res bxs h => by
  unfold E_within at h
  split at h
  · rename_i n a b
    obtain ⟨hc, he⟩ := pick1 h
    cases he
    refine ⟨noLoop (by kernel_rfl), (q_within_eq n a b).trans ?_⟩
    unfold rngI
    cases decide (a ≤ n) <;> cases decide (n ≤ b) <;> rfl
  · cases h

theorem u8_back (c : UInt8) : c.toNat.toUInt8 = c := by simp
theorem emptyB (c : ByteArray) : (ByteArray.toList c == []) = decide (c.size = 0) := by
  rw [Bool.eq_iff_iff, beq_iff_eq, decide_eq_true_eq]
  have e : ByteArray.toList c = c.data.toList := by
    have := bs_toList c.data.toList
    rwa [bs_self] at this
  rw [e, ← len_size]
  exact List.length_eq_zero_iff.symm
theorem codesOk_loop (c : ByteArray) (hc : c.size ≤ 1000000) : ∀ (m i : Nat), m + i = c.size → LoopsTo (rdB brC Try.prog gdb0 lp_codesOk LO_codesOk Try.f55 2 []) [aS c, aI i] (if codesC (prevC c.data.toList i) (c.data.toList.drop i) = true then (.exit 0, [aX]) else (.ret, [aB false])) := by
  have hn := len_size c
  intro m
  induction m with
  | zero =>
    intro i hm
    obtain rfl : i = c.size := by omega
    rw [← hn, List.drop_length, hn]
    refine .done _ _ ((r_codesOk_eq c c.size).trans ?_)
    rw [dF (by omega)]
    rfl
  | succ m ih =>
    intro i hm
    have hi : i < c.size := by omega
    have hil : i < c.data.toList.length := by omega
    have ih' := ih (i + 1) (by omega)
    have hp1 : prevC c.data.toList (i + 1) = some c.data.toList[i] := by unfold prevC; rw [if_neg (by omega)]; simp only [Nat.add_sub_cancel]; exact List.getElem?_eq_getElem hil
    rw [hp1] at ih'
    rw [List.drop_eq_getElem_cons hil]
    unfold codesC
    have tree := r_codesOk_eq c i
    have g1 : c.data.toList.getD i 0 = c.data.toList[i] := by rw [List.getD_eq_getElem?_getD, List.getElem?_eq_getElem hil]; rfl
    rw [show ([65, 67, 69, 76, 78, 80, 85] : List UInt8) = codesPc from rfl] at tree
    simp (disch := first | omega | rfl) only [g1, u8_back, decide_true, dT, Int.toNat_natCast, List.length_cons, List.headD_cons, List.tail_cons, List.drop_zero, List.drop_succ_cons, PV.isStr, PV.asStr, PV.isSl, PV.slN, PV.slL, PV.isInt, PV.asInt, PV.isBool, PV.asBool, ble1, ble2, ble3, ble4, ble5, ble6, blt0, wrap1, Bool.and_true, Bool.true_and] at tree
    by_cases hx : Lib.indexByte codesPc c.data.toList[i] < 0
    · rw [dT hx] at tree
      rw [dF (show ¬ 0 ≤ Lib.indexByte codesPc c.data.toList[i] by omega)]
      simp only [Bool.false_and, if_neg Bool.false_ne_true]
      exact .done _ _ tree
    · rw [dF hx] at tree
      rw [dT (show 0 ≤ Lib.indexByte codesPc c.data.toList[i] by omega)]
      simp only [Bool.true_and]
      by_cases h0 : i = 0
      · subst h0
        rw [show prevC c.data.toList 0 = none from rfl]
        simp only [Bool.true_and]
        rw [dF (by omega)] at tree
        exact .step _ _ _ tree ih'
      · have hj : i - 1 < c.data.toList.length := by omega
        have w1 : IntKind.wrap .i64 ((i : Int) - 1) = ((i - 1 : Nat) : Int) := by rw [wrapI (by omega) (by omega)]; omega
        have hp : prevC c.data.toList i = some c.data.toList[i - 1] := by unfold prevC; rw [if_neg h0]; exact List.getElem?_eq_getElem hj
        have g2 : c.data.toList.getD (i - 1) 0 = c.data.toList[i - 1] := by rw [List.getD_eq_getElem?_getD, List.getElem?_eq_getElem hj]; rfl
        rw [hp]
        simp (disch := first | omega | rfl) only [w1, g2, decide_true, dT, Int.toNat_natCast, List.length_cons, List.headD_cons, List.tail_cons, List.drop_zero, List.drop_succ_cons, PV.isStr, PV.asStr, PV.isSl, PV.slN, PV.slL, PV.isInt, PV.asInt, PV.isBool, PV.asBool, ble1, ble2, ble3, ble4, ble5, ble6, blt0, wrap1, Bool.and_true, Bool.true_and] at tree
        by_cases hlt : c.data.toList[i - 1].toNat < c.data.toList[i].toNat
        · rw [dF (show ¬ ((c.data.toList[i - 1].toNat : Int) ≥ (c.data.toList[i].toNat : Int)) by omega)] at tree
          simp only [dT hlt, Bool.true_and]
          exact .step _ _ _ tree ih'
        · rw [dT (show ((c.data.toList[i - 1].toNat : Int) ≥ (c.data.toList[i].toNat : Int)) by omega)] at tree
          simp only [dF hlt, Bool.false_and, if_neg Bool.false_ne_true]
          exact .done _ _ tree
theorem ok_codesOk : EntryOk Try.prog 55 E_codesOk := entry_of mix ok_gdb0 (lp := lp_codesOk) (LO := LO_codesOk) ⟨Try.func55, by kernel_rfl, by kernel_rfl⟩ (by kernel_rfl) fun ivs res bxs h => by
  unfold E_codesOk at h
  split at h
  · rename_i c
    obtain ⟨hc, he⟩ := pick1 h
    cases he
    have c0 := of_decide_eq_true hc
    refine ⟨oneLoop 2 (by kernel_rfl) (by kernel_rfl) (by kernel_rfl) ?_, (q_codesOk_eq c).trans ?_⟩
    · intro ls e ls' hl
      replace hl : pickA (LO_codesOk_2 ls) = some (e, ls') := hl
      unfold LO_codesOk_2 at hl
      split at hl
      · rename_i c i
        rcases pick2 hl with ⟨hc, he⟩ | ⟨hn, hc, he⟩
        · cases he
          obtain ⟨⟨k1, k0⟩, k2⟩ := And.imp_left andE (andE hc)
          obtain rfl := eq_of_beq k1
          have := codesOk_loop c (of_decide_eq_true k0) c.size 0 (by omega)
          rw [List.drop_zero] at this
          rw [if_neg (by intro k; rw [show codesB c = true from k] at k2; cases k2)] at this
          exact this
        · cases he
          obtain ⟨⟨k1, k0⟩, k2⟩ := And.imp_left andE (andE hc)
          obtain rfl := eq_of_beq k1
          have := codesOk_loop c (of_decide_eq_true k0) c.size 0 (by omega)
          rw [List.drop_zero] at this
          rw [if_pos (show codesC (prevC c.data.toList 0) c.data.toList = true from k2)] at this
          exact this
      · cases hl
    · rw [dT c0]
      cases hb : codesB c <;> rfl
  · cases h
theorem ok_gdb1 : EntriesOk Try.prog gdb1 := ⟨ok_codesOk, ok_within, ok_gdb0⟩
theorem itemB_eq (f : Nat) (x : PatT) : itemB f x = (rngI x.low 0 99 && (decide (x.high = -1) || rngI x.high x.low 99) &&
      (if x.codes.size ≠ 0 then codesB x.codes && decide (x.text.size = 0) && decide (x.alts.length = 0)
       else if x.text.size ≠ 0 then decide (x.text.size ≤ 24) && decide (x.alts.length = 0)
       else rngI x.alts.length 1 8 && decide (0 < f) && altsB (f - 1) x.alts)) := by
  cases x
  simp only [itemB, PatT.low, PatT.high, PatT.codes, PatT.text, PatT.alts]
  rfl
theorem ok_gdb2 (f : Nat) (hX : EntryOk Try.prog 19 (E_itemsX f)) : EntriesOk Try.prog (gdb2 f) := ⟨hX, ok_gdb1⟩
theorem ok_alt1 (f : Nat) (hX : EntryOk Try.prog 19 (E_itemsX f)) : EntryOk Try.prog 57 (E_alt1 f) := entry_of mix (ok_gdb2 f hX) (lp := []) (LO := LO0) ⟨Try.func57, by kernel_rfl, by kernel_rfl⟩ (by kernel_rfl) fun ivs res bxs h => by
  unfold E_alt1 at h
  split at h
  · rename_i p k
    obtain ⟨hc, he⟩ := pick1 h
    cases he
    simp only [Bool.and_eq_true, decide_eq_true_eq] at hc
    obtain ⟨⟨⟨k0, k1⟩, k2⟩, k3⟩ := hc
    obtain ⟨l, rfl, hl⟩ := isE_inv k2
    obtain rfl := eq_of_beq k3
    refine ⟨noLoop (by kernel_rfl), (q_alt1_eq f l _).trans ?_⟩
    have w1 : IntKind.wrap .i64 ((3 - (f : Int)) + 1) = 3 - ((f : Int) - 1) := by rw [wrapI (by omega) (by omega)]; omega
    simp (disch := first | omega | rfl) only [isPt, isPt_mk hl, asPt_mk, w1, beq_self_eq_true, dT k0, dT k1, decide_true, dT, Int.toNat_natCast, List.length_cons, List.headD_cons, List.tail_cons, List.drop_zero, List.drop_succ_cons, PV.isStr, PV.asStr, PV.isSl, PV.slN, PV.slL, PV.isInt, PV.asInt, PV.isBool, PV.asBool, ble1, ble2, ble3, ble4, ble5, ble6, blt0, wrap1, Bool.and_true, Bool.true_and]
    rfl
  · cases h
theorem ok_gdb3 (f : Nat) (hX : EntryOk Try.prog 19 (E_itemsX f)) : EntriesOk Try.prog (gdb3 f) := ⟨ok_alt1 f hX, ok_gdb2 f hX⟩
theorem IdxA_loop (f : Nat) (h0 : 0 < f) (h4 : f ≤ 4) (l : List (List PatT)) (h : shAls l) : ∀ (m i : Nat), m + i = l.length → LoopsTo (rdB brC Try.prog (gdb3 f) lp_IdxA (LO_IdxA f) Try.f65 2 []) [aP (pAl l), aP (aCl (3 - (f : Int))), aI l.length, aI i]
    (if idxV (badA f) (l.drop i) + i < l.length then (.ret, [aI ((idxV (badA f) (l.drop i) + i : Nat) : Int)]) else (.exit 0, [aX])) := by
  have hl := h.1
  intro m
  induction m with
  | zero =>
    intro i hm
    obtain rfl : i = l.length := by omega
    rw [List.drop_length, if_neg (by omega)]
    refine .done _ _ ((r_IdxA_eq f l _ l.length).trans ?_)
    rw [dF (by omega)]
    rfl
  | succ m ih =>
    intro i hm
    have hi : i < l.length := by omega
    have hs := shAls_at h hi
    have ih' := ih (i + 1) (by omega)
    have tree := r_IdxA_eq f l (3 - (f : Int)) i
    simp (disch := first | omega | rfl) only [drop_encAl l i hi, isPt, isPt_mk hs, asPt_mk, beq_self_eq_true, dT h0, dT h4, decide_true, dT, Int.toNat_natCast, List.length_cons, List.headD_cons, List.tail_cons, List.drop_zero, List.drop_succ_cons, PV.isStr, PV.asStr, PV.isSl, PV.slN, PV.slL, PV.isInt, PV.asInt, PV.isBool, PV.asBool, ble1, ble2, ble3, ble4, ble5, ble6, blt0, wrap1, Bool.and_true, Bool.true_and] at tree
    rw [List.drop_eq_getElem_cons hi]
    cases hin : itemsB (f - 1) l[i] with
    | false =>
      rw [hin] at tree
      rw [idxV_in (show badA f l[i] = true by rw [badA, hin]; rfl), Nat.zero_add, if_pos hi]
      exact .done _ _ tree
    | true =>
      rw [hin] at tree
      rw [idxV_out (show badA f l[i] = false by rw [badA, hin]; rfl)]
      have e : idxV (badA f) (l.drop (i + 1)) + (i + 1) = idxV (badA f) (l.drop (i + 1)) + 1 + i := by omega
      rw [e] at ih'
      exact .step _ _ _ tree ih'
theorem ok_IdxA (f : Nat) (hX : EntryOk Try.prog 19 (E_itemsX f)) : EntryOk Try.prog 65 (E_IdxA f) := entry_of mix (ok_gdb3 f hX) (lp := lp_IdxA) (LO := LO_IdxA f) ⟨Try.func65, by kernel_rfl, by kernel_rfl⟩ (by kernel_rfl) fun ivs res bxs h => by
  unfold E_IdxA at h
  split at h
  · rename_i p g k
    obtain ⟨hc, he⟩ := pick1 h
    cases he
    simp only [Bool.and_eq_true, decide_eq_true_eq] at hc
    obtain ⟨⟨⟨⟨k0, k1⟩, k2⟩, k3⟩, k4⟩ := hc
    obtain ⟨l, rfl, hl⟩ := isE_inv k2
    obtain rfl := eq_of_beq k3
    obtain rfl := Nat.eq_of_beq_eq_true k4
    refine ⟨oneLoop 2 (by kernel_rfl) (by kernel_rfl) (by kernel_rfl) ?_, (q_IdxA_eq f l _).trans ?_⟩
    · intro ls e ls' hll
      replace hll : pickA (LO_IdxA f 2 ls) = some (e, ls') := hll
      unfold LO_IdxA at hll
      split at hll
      · rename_i p g k n i
        rcases pick2 hll with ⟨hc, he⟩ | ⟨hn, hc, he⟩
        · cases he
          simp only [Bool.and_eq_true, decide_eq_true_eq] at hc
          obtain ⟨⟨⟨⟨⟨⟨⟨k0, k1⟩, k2⟩, k3⟩, k4⟩, k5⟩, k6⟩, k7⟩ := hc
          obtain ⟨u, rfl, hu⟩ := isE_inv k2
          obtain rfl := eq_of_beq k3
          obtain rfl := Nat.eq_of_beq_eq_true k4
          simp only [asAl, asAl_mk] at k5 k7 ⊢
          obtain rfl := eq_of_beq k5
          obtain rfl := eq_of_beq k6
          have := IdxA_loop f k0 k1 u hu u.length 0 (by omega)
          rw [List.drop_zero, Nat.add_zero, if_pos k7] at this
          exact this
        · cases he
          simp only [Bool.and_eq_true, decide_eq_true_eq, Bool.not_eq_true', decide_eq_false_iff_not] at hc
          obtain ⟨⟨⟨⟨⟨⟨⟨k0, k1⟩, k2⟩, k3⟩, k4⟩, k5⟩, k6⟩, k7⟩ := hc
          obtain ⟨u, rfl, hu⟩ := isE_inv k2
          obtain rfl := eq_of_beq k3
          obtain rfl := Nat.eq_of_beq_eq_true k4
          simp only [asAl, asAl_mk] at k5 k7 ⊢
          obtain rfl := eq_of_beq k5
          obtain rfl := eq_of_beq k6
          have := IdxA_loop f k0 k1 u hu u.length 0 (by omega)
          rw [List.drop_zero, Nat.add_zero, if_neg k7] at this
          exact this
      · cases hll
    · simp (disch := first | omega | rfl) only [isAl, pAl, isAl_mk hl, asAl_mk, beq_self_eq_true, dT k0, dT k1, Nat.beq_refl, decide_true, dT, Int.toNat_natCast, List.length_cons, List.headD_cons, List.tail_cons, List.drop_zero, List.drop_succ_cons, PV.isStr, PV.asStr, PV.isSl, PV.slN, PV.slL, PV.isInt, PV.asInt, PV.isBool, PV.asBool, ble1, ble2, ble3, ble4, ble5, ble6, blt0, wrap1, Bool.and_true, Bool.true_and]
      by_cases hlt : idxV (badA f) l < l.length
      · rw [dT hlt, if_pos hlt]
        rfl
      · rw [dF hlt, if_neg hlt]
        rfl
  · cases h
theorem ok_gdb4 (f : Nat) (hX : EntryOk Try.prog 19 (E_itemsX f)) : EntriesOk Try.prog (gdb4 f) := ⟨ok_IdxA f hX, ok_gdb3 f hX⟩
theorem ok_ConA (f : Nat) (hX : EntryOk Try.prog 19 (E_itemsX f)) : EntryOk Try.prog 56 (E_ConA f) := entry_of mix (ok_gdb4 f hX) (lp := []) (LO := LO0) ⟨Try.func56, by kernel_rfl, by kernel_rfl⟩ (by kernel_rfl) fun ivs res bxs h => by
  unfold E_ConA at h
  split at h
  · rename_i p g k
    obtain ⟨hc, he⟩ := pick1 h
    cases he
    simp only [Bool.and_eq_true, decide_eq_true_eq] at hc
    obtain ⟨⟨⟨⟨k0, k1⟩, k2⟩, k3⟩, k4⟩ := hc
    obtain ⟨l, rfl, hl⟩ := isE_inv k2
    obtain rfl := eq_of_beq k3
    obtain rfl := Nat.eq_of_beq_eq_true k4
    refine ⟨noLoop (by kernel_rfl), (q_ConA_eq f l _).trans ?_⟩
    simp (disch := first | omega | rfl) only [isAl, isAl_mk hl, asAl, asAl_mk, beq_self_eq_true, dT k0, dT k1, Nat.beq_refl, decide_true, dT, Int.toNat_natCast, List.length_cons, List.headD_cons, List.tail_cons, List.drop_zero, List.drop_succ_cons, PV.isStr, PV.asStr, PV.isSl, PV.slN, PV.slL, PV.isInt, PV.asInt, PV.isBool, PV.asBool, ble1, ble2, ble3, ble4, ble5, ble6, blt0, wrap1, Bool.and_true, Bool.true_and]
    rw [ifIdxV, idxV_any, altsB_any, Bool.not_not]
    rfl
  · cases h
theorem ok_gdb5 (f : Nat) (hX : EntryOk Try.prog 19 (E_itemsX f)) : EntriesOk Try.prog (gdb5 f) := ⟨ok_ConA f hX, ok_gdb4 f hX⟩
theorem ok_itemOk (f : Nat) (hX : EntryOk Try.prog 19 (E_itemsX f)) : EntryOk Try.prog 40 (E_itemOk f) := entry_of mix (ok_gdb5 f hX) (lp := []) (LO := LO0) ⟨Try.func40, by kernel_rfl, by kernel_rfl⟩ (by kernel_rfl) fun ivs res bxs h => by
  unfold E_itemOk at h
  split at h
  · rename_i p k
    obtain ⟨hc, he⟩ := pick1 h
    cases he
    simp only [Bool.and_eq_true, decide_eq_true_eq] at hc
    obtain ⟨⟨k1, k2⟩, k3⟩ := hc
    obtain ⟨x, rfl, hx⟩ := isE_inv k2
    obtain rfl := eq_of_beq k3
    obtain ⟨g1, g2, g3, g4, g5⟩ := shP1_facts hx
    refine ⟨noLoop (by kernel_rfl), (q_itemOk_eq f x _).trans ?_⟩
    have hal := isAl_mk g5
    have e1 : asP1 (pP1 x) = x := asP1_mk x
    rw [e1, itemB_eq]
    simp (disch := first | omega | rfl) only [isAl, hal, asAl, asAl_mk, emptyB, beq_self_eq_true, dT g3, dT (show f ≤ 4 by omega), Nat.beq_refl, Bool.and_true, Bool.true_and, Bool.not_not]
    have d1 : decide ((3 - (f : Int)) < 3) = decide (0 < f) := by by_cases h : 0 < f <;> simp [h] <;> omega
    have d2 : (x.high != -1) = !decide (x.high = -1) := rfl
    have d3 : ((x.alts.length : Int) == 0) = decide (x.alts.length = 0) := by by_cases h : x.alts.length = 0 <;> simp [h]
    have d4 : decide ((x.text.size : Int) ≤ 24) = decide (x.text.size ≤ 24) := by by_cases h : x.text.size ≤ 24 <;> simp [h] <;> omega
    rw [d1, d2, d3, d4]
    generalize rngI x.low 0 99 = b1
    generalize decide (x.high = -1) = b2
    generalize rngI x.high x.low 99 = b3
    generalize codesB x.codes = b4
    generalize decide (x.alts.length = 0) = b5
    generalize decide (x.text.size ≤ 24) = b6
    generalize rngI x.alts.length 1 8 = b7
    generalize altsB (f - 1) x.alts = b8
    generalize decide (0 < f) = b9
    by_cases hc : x.codes.size = 0
    · by_cases ht : x.text.size = 0
      · rw [dT hc, dT ht, if_neg (by simp [hc]), if_neg (by simp [ht])]
        cases b1 <;> cases b2 <;> cases b3 <;> cases b7 <;> cases b9 <;> cases b8 <;> rfl
      · rw [dT hc, dF ht, if_neg (by simp [hc]), if_pos ht]
        cases b1 <;> cases b2 <;> cases b3 <;> cases b6 <;> cases b5 <;> rfl
    · rw [dF hc, if_pos hc]
      generalize decide (x.text.size = 0) = b10
      cases b1 <;> cases b2 <;> cases b3 <;> cases b4 <;> cases b10 <;> cases b5 <;> rfl
  · cases h
theorem ok_gdb6 (f : Nat) (hX : EntryOk Try.prog 19 (E_itemsX f)) : EntriesOk Try.prog (gdb6 f) := ⟨ok_itemOk f hX, ok_gdb5 f hX⟩
theorem ok_item1 (f : Nat) (hX : EntryOk Try.prog 19 (E_itemsX f)) : EntryOk Try.prog 39 (E_item1 f) := entry_of mix (ok_gdb6 f hX) (lp := []) (LO := LO0) ⟨Try.func39, by kernel_rfl, by kernel_rfl⟩ (by kernel_rfl) fun ivs res bxs h => by
  unfold E_item1 at h
  split at h
  · rename_i p k
    obtain ⟨hc, he⟩ := pick1 h
    cases he
    simp only [Bool.and_eq_true, decide_eq_true_eq] at hc
    obtain ⟨⟨k1, k2⟩, k3⟩ := hc
    obtain ⟨x, rfl, hx⟩ := isE_inv k2
    obtain rfl := eq_of_beq k3
    refine ⟨noLoop (by kernel_rfl), (q_item1_eq f x _).trans ?_⟩
    simp (disch := first | omega | rfl) only [isP1, isP1_mk hx, asP1, asP1_mk, beq_self_eq_true, dT k1, decide_true, dT, Int.toNat_natCast, List.length_cons, List.headD_cons, List.tail_cons, List.drop_zero, List.drop_succ_cons, PV.isStr, PV.asStr, PV.isSl, PV.slN, PV.slL, PV.isInt, PV.asInt, PV.isBool, PV.asBool, ble1, ble2, ble3, ble4, ble5, ble6, blt0, wrap1, Bool.and_true, Bool.true_and]
    rfl
  · cases h
theorem ok_gdb7 (f : Nat) (hX : EntryOk Try.prog 19 (E_itemsX f)) : EntriesOk Try.prog (gdb7 f) := ⟨ok_item1 f hX, ok_gdb6 f hX⟩
theorem IdxI_loop (f : Nat) (h3 : f ≤ 3) (l : List PatT) (h : shPts l) : ∀ (m i : Nat), m + i = l.length → LoopsTo (rdB brC Try.prog (gdb7 f) lp_IdxA (LO_IdxI f) Try.f54 2 []) [aP (pPt l), aP (iCl (3 - (f : Int))), aI l.length, aI i]
    (if idxV (badI f) (l.drop i) + i < l.length then (.ret, [aI ((idxV (badI f) (l.drop i) + i : Nat) : Int)]) else (.exit 0, [aX])) := by
  have hl := h.1
  intro m
  induction m with
  | zero =>
    intro i hm
    obtain rfl : i = l.length := by omega
    rw [List.drop_length, if_neg (by omega)]
    refine .done _ _ ((r_IdxI_eq f l _ l.length).trans ?_)
    rw [dF (by omega)]
    rfl
  | succ m ih =>
    intro i hm
    have hi : i < l.length := by omega
    have hs := shPts_at h hi
    have ih' := ih (i + 1) (by omega)
    have tree := r_IdxI_eq f l (3 - (f : Int)) i
    simp (disch := first | omega | rfl) only [drop_encPt l i hi, isP1, isP1_mk hs, asP1, asP1_mk, beq_self_eq_true, dT h3, decide_true, dT, Int.toNat_natCast, List.length_cons, List.headD_cons, List.tail_cons, List.drop_zero, List.drop_succ_cons, PV.isStr, PV.asStr, PV.isSl, PV.slN, PV.slL, PV.isInt, PV.asInt, PV.isBool, PV.asBool, ble1, ble2, ble3, ble4, ble5, ble6, blt0, wrap1, Bool.and_true, Bool.true_and] at tree
    rw [List.drop_eq_getElem_cons hi]
    cases hin : itemB f l[i] with
    | false =>
      rw [hin] at tree
      rw [idxV_in (show badI f l[i] = true by rw [badI, hin]; rfl), Nat.zero_add, if_pos hi]
      exact .done _ _ tree
    | true =>
      rw [hin] at tree
      rw [idxV_out (show badI f l[i] = false by rw [badI, hin]; rfl)]
      have e : idxV (badI f) (l.drop (i + 1)) + (i + 1) = idxV (badI f) (l.drop (i + 1)) + 1 + i := by omega
      rw [e] at ih'
      exact .step _ _ _ tree ih'
theorem ok_IdxI (f : Nat) (hX : EntryOk Try.prog 19 (E_itemsX f)) : EntryOk Try.prog 54 (E_IdxI f) := entry_of mix (ok_gdb7 f hX) (lp := lp_IdxA) (LO := LO_IdxI f) ⟨Try.func54, by kernel_rfl, by kernel_rfl⟩ (by kernel_rfl) fun ivs res bxs h => by
  unfold E_IdxI at h
  split at h
  · rename_i p g k
    obtain ⟨hc, he⟩ := pick1 h
    cases he
    simp only [Bool.and_eq_true, decide_eq_true_eq] at hc
    obtain ⟨⟨⟨k1, k2⟩, k3⟩, k4⟩ := hc
    obtain ⟨l, rfl, hl⟩ := isE_inv k2
    obtain rfl := eq_of_beq k3
    obtain rfl := Nat.eq_of_beq_eq_true k4
    refine ⟨oneLoop 2 (by kernel_rfl) (by kernel_rfl) (by kernel_rfl) ?_, (q_IdxI_eq f l _).trans ?_⟩
    · intro ls e ls' hll
      replace hll : pickA (LO_IdxI f 2 ls) = some (e, ls') := hll
      unfold LO_IdxI at hll
      split at hll
      · rename_i p g k n i
        rcases pick2 hll with ⟨hc, he⟩ | ⟨hn, hc, he⟩
        · cases he
          simp only [Bool.and_eq_true, decide_eq_true_eq] at hc
          obtain ⟨⟨⟨⟨⟨⟨k1, k2⟩, k3⟩, k4⟩, k5⟩, k6⟩, k7⟩ := hc
          obtain ⟨u, rfl, hu⟩ := isE_inv k2
          obtain rfl := eq_of_beq k3
          obtain rfl := Nat.eq_of_beq_eq_true k4
          simp only [asPt, asPt_mk] at k5 k7 ⊢
          obtain rfl := eq_of_beq k5
          obtain rfl := eq_of_beq k6
          have := IdxI_loop f k1 u hu u.length 0 (by omega)
          rw [List.drop_zero, Nat.add_zero, if_pos k7] at this
          exact this
        · cases he
          simp only [Bool.and_eq_true, decide_eq_true_eq, Bool.not_eq_true', decide_eq_false_iff_not] at hc
          obtain ⟨⟨⟨⟨⟨⟨k1, k2⟩, k3⟩, k4⟩, k5⟩, k6⟩, k7⟩ := hc
          obtain ⟨u, rfl, hu⟩ := isE_inv k2
          obtain rfl := eq_of_beq k3
          obtain rfl := Nat.eq_of_beq_eq_true k4
          simp only [asPt, asPt_mk] at k5 k7 ⊢
          obtain rfl := eq_of_beq k5
          obtain rfl := eq_of_beq k6
          have := IdxI_loop f k1 u hu u.length 0 (by omega)
          rw [List.drop_zero, Nat.add_zero, if_neg k7] at this
          exact this
      · cases hll
    · simp (disch := first | omega | rfl) only [isPt, pPt, isPt_mk hl, asPt_mk, beq_self_eq_true, dT k1, Nat.beq_refl, decide_true, dT, Int.toNat_natCast, List.length_cons, List.headD_cons, List.tail_cons, List.drop_zero, List.drop_succ_cons, PV.isStr, PV.asStr, PV.isSl, PV.slN, PV.slL, PV.isInt, PV.asInt, PV.isBool, PV.asBool, ble1, ble2, ble3, ble4, ble5, ble6, blt0, wrap1, Bool.and_true, Bool.true_and]
      by_cases hlt : idxV (badI f) l < l.length
      · rw [dT hlt, if_pos hlt]
        rfl
      · rw [dF hlt, if_neg hlt]
        rfl
  · cases h
theorem ok_gdb8 (f : Nat) (hX : EntryOk Try.prog 19 (E_itemsX f)) : EntriesOk Try.prog (gdb8 f) := ⟨ok_IdxI f hX, ok_gdb7 f hX⟩
theorem ok_ConI (f : Nat) (hX : EntryOk Try.prog 19 (E_itemsX f)) : EntryOk Try.prog 38 (E_ConI f) := entry_of mix (ok_gdb8 f hX) (lp := []) (LO := LO0) ⟨Try.func38, by kernel_rfl, by kernel_rfl⟩ (by kernel_rfl) fun ivs res bxs h => by
  unfold E_ConI at h
  split at h
  · rename_i p g k
    obtain ⟨hc, he⟩ := pick1 h
    cases he
    simp only [Bool.and_eq_true, decide_eq_true_eq] at hc
    obtain ⟨⟨⟨k1, k2⟩, k3⟩, k4⟩ := hc
    obtain ⟨l, rfl, hl⟩ := isE_inv k2
    obtain rfl := eq_of_beq k3
    obtain rfl := Nat.eq_of_beq_eq_true k4
    refine ⟨noLoop (by kernel_rfl), (q_ConI_eq f l _).trans ?_⟩
    simp (disch := first | omega | rfl) only [isPt, isPt_mk hl, asPt, asPt_mk, beq_self_eq_true, dT k1, Nat.beq_refl, decide_true, dT, Int.toNat_natCast, List.length_cons, List.headD_cons, List.tail_cons, List.drop_zero, List.drop_succ_cons, PV.isStr, PV.asStr, PV.isSl, PV.slN, PV.slL, PV.isInt, PV.asInt, PV.isBool, PV.asBool, ble1, ble2, ble3, ble4, ble5, ble6, blt0, wrap1, Bool.and_true, Bool.true_and]
    rw [ifIdxV, idxV_any, itemsL_any, Bool.not_not]
    rfl
  · cases h
theorem ok_gdb9 (f : Nat) (hX : EntryOk Try.prog 19 (E_itemsX f)) : EntriesOk Try.prog (gdb9 f) := ⟨ok_ConI f hX, ok_gdb8 f hX⟩
theorem ok_itemsF (f : Nat) (hX : EntryOk Try.prog 19 (E_itemsX f)) : EntryOk Try.prog 19 (E_itemsF f) := entry_of mix (ok_gdb9 f hX) (lp := []) (LO := LO0) ⟨Try.func19, by kernel_rfl, by kernel_rfl⟩ (by kernel_rfl) fun ivs res bxs h => by
  unfold E_itemsF at h
  split at h
  · rename_i p k
    obtain ⟨hc, he⟩ := pick1 h
    cases he
    simp only [Bool.and_eq_true, decide_eq_true_eq] at hc
    obtain ⟨⟨k1, k2⟩, k3⟩ := hc
    obtain ⟨l, rfl, hl⟩ := isE_inv k2
    obtain rfl := eq_of_beq k3
    refine ⟨noLoop (by kernel_rfl), (q_itemsOk_eq f l _).trans ?_⟩
    simp (disch := first | omega | rfl) only [isPt, isPt_mk hl, asPt, asPt_mk, beq_self_eq_true, dT k1, Nat.beq_refl, decide_true, dT, Int.toNat_natCast, List.length_cons, List.headD_cons, List.tail_cons, List.drop_zero, List.drop_succ_cons, PV.isStr, PV.asStr, PV.isSl, PV.slN, PV.slL, PV.isInt, PV.asInt, PV.isBool, PV.asBool, ble1, ble2, ble3, ble4, ble5, ble6, blt0, wrap1, Bool.and_true, Bool.true_and]
    unfold itemsB
    cases rngI l.length 1 8 <;> cases itemsL f l <;> rfl
  · cases h
theorem ok_itemsX0 : EntryOk Try.prog 19 (E_itemsX 0) := ⟨⟨_, Try.func19, by kernel_rfl, by kernel_rfl⟩, fun ivs res bxs h => by
  unfold E_itemsX at h
  split at h
  · obtain ⟨hc, he⟩ := pick1 h
    cases hc
  · cases h⟩
theorem ok_itemsXs {f : Nat} (hF : EntryOk Try.prog 19 (E_itemsF f)) : EntryOk Try.prog 19 (E_itemsX (f + 1)) := ⟨hF.1, fun ivs res bxs h => by
  refine hF.2 ivs res bxs ?_
  unfold E_itemsX at h
  split at h
  · rename_i p k
    obtain ⟨hc, he⟩ := pick1 h
    cases he
    simp only [Bool.and_eq_true, decide_eq_true_eq] at hc
    obtain ⟨⟨⟨k0, k1⟩, k2⟩, k3⟩ := hc
    have k3 := eq_of_beq k3
    unfold E_itemsF
    dsimp only
    rw [dT (show f ≤ 3 by omega), k2, show (k == 3 - (f : Int)) = true by rw [beq_iff_eq, k3]; omega]
    rfl
  · cases h⟩
theorem ok_items : ∀ f : Nat, EntryOk Try.prog 19 (E_itemsF f)
  | 0 => ok_itemsF 0 ok_itemsX0
  | f + 1 => ok_itemsF (f + 1) (ok_itemsXs (ok_items f))
theorem ok_gdc0 : EntriesOk Try.prog gdc0 := ⟨ok_items 3, ok_gdb1⟩
theorem ok_PatternOk : EntryOk Try.prog 9 E_PatternOk := entry_of mix ok_gdc0 (lp := []) (LO := LO0) ⟨Try.func9, by kernel_rfl, by kernel_rfl⟩ (by kernel_rfl) fun ivs res bxs h => by
  unfold E_PatternOk at h
  split at h
  · rename_i p
    obtain ⟨hc, he⟩ := pick1 h
    cases he
    obtain ⟨l, rfl, hl⟩ := isE_inv hc
    refine ⟨noLoop (by kernel_rfl), (q_PatternOk_eq l).trans ?_⟩
    simp (disch := first | omega | rfl) only [isPt, isPt_mk hl, asPt, asPt_mk, decide_true, dT, Int.toNat_natCast, List.length_cons, List.headD_cons, List.tail_cons, List.drop_zero, List.drop_succ_cons, PV.isStr, PV.asStr, PV.isSl, PV.slN, PV.slL, PV.isInt, PV.asInt, PV.isBool, PV.asBool, ble1, ble2, ble3, ble4, ble5, ble6, blt0, wrap1, Bool.and_true, Bool.true_and]
    rfl
  · cases h
end Go.Proofs.Ytdegegajoccdjaa
