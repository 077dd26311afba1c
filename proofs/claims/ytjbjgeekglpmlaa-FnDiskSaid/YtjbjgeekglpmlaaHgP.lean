/- Disks: copies and changes, by the reckoner: proofs. -/
import Derived.Test.YtjbjgeekglpmlaaHgT
import Derived.Test.YtjbjgeekglpmlaaHgE
namespace Go.Proofs.Ytjbjgeekglpmlaa
open Go.RowKit
set_option linter.unusedVariables false
set_option linter.unusedSimpArgs false
set_option maxRecDepth 100000

noncomputable instance : DecidableEq PutT := fun a b => Classical.propDecidable _
theorem sameP_cons (x y : PutT) (t u : List PutT) : sameP (x :: t) (y :: u) = (decide (x = y) && sameP t u) := by
  by_cases hxy : x = y
  · rw [dT hxy, Bool.true_and]
    cases hs : sameP t u with
    | true => exact holds_mk (by rw [hxy, holds_inv hs])
    | false =>
      cases hr : sameP (x :: t) (y :: u) with
      | false => rfl
      | true =>
        have := holds_inv hr
        injection this with _ h
        rw [show sameP t u = true from holds_mk h] at hs
        cases hs
  · rw [dF hxy, Bool.false_and]
    cases hr : sameP (x :: t) (y :: u) with
    | false => rfl
    | true =>
      have := holds_inv hr
      injection this with h _
      exact absurd h hxy
theorem sameS_cons (x y : ByteArray) (t u : List ByteArray) : sameS (x :: t) (y :: u) = (sEq x y && sameS t u) := by
  by_cases hxy : x = y
  · rw [sEq_iff.2 hxy, Bool.true_and]
    cases hs : sameS t u with
    | true => exact holds_mk (by rw [hxy, holds_inv hs])
    | false =>
      cases hr : sameS (x :: t) (y :: u) with
      | false => rfl
      | true =>
        have := holds_inv hr
        injection this with _ h
        rw [show sameS t u = true from holds_mk h] at hs
        cases hs
  · rw [sEq_false.2 hxy, Bool.false_and]
    cases hr : sameS (x :: t) (y :: u) with
    | false => rfl
    | true =>
      have := holds_inv hr
      injection this with h _
      exact absurd h hxy
theorem ok_CloP1 : EntryOk Try.prog 72 E_CloP1 := entry_ofM mix (tab := []) trivial (lp := []) (LO := LO0) ⟨Try.func72, by kernel_rfl, by kernel_rfl⟩ (by kernel_rfl) fun ivs res bxs h => by
  unfold E_CloP1 at h
  split at h
  · rename_i p
    obtain ⟨hc, he⟩ := pick1 h
    cases he
    rw [Bool.and_eq_true, decide_eq_true_eq] at hc
    obtain ⟨t, rfl, ht⟩ := isPs_inv hc.1
    have e1 : asPs (pPs t) = t := asPs_mk t
    have h2 := hc.2
    rw [e1] at h2 ⊢
    have hl := ht.1
    cases t with
    | nil => simp at h2
    | cons x t =>
      have tree := q_CloP_eq x t
      rw [List.length_cons] at hl
      have b1 : Nat.beq (PV.int IntKind.i64 x.at_ :: PV.str x.byt :: encP t).length ((t.length + 1) * 2) = true := encP_beq (x :: t)
      rw [b1, dT (show 0 + (t.length + 1) ≤ 140737488351232 by omega), dT (show (0 + (t.length + 1)) * 24 ≤ 140737488355328 by omega), Nat.zero_add] at tree
      exact ⟨noLoop (by kernel_rfl), _, tree, rfl, rfl⟩
  · cases h
theorem ok_CloP : EntryOk Try.prog 72 E_CloP := ⟨ok_CloP1.1, fun ivs res bxs h => by
  unfold E_CloP at h
  split at h
  · rename_i p
    obtain ⟨hc, he⟩ := pick1 h
    cases he
    obtain ⟨t, rfl, ht⟩ := isPs_inv hc
    have e1 : asPs (pPs t) = t := asPs_mk t
    cases t with
    | nil =>
      rw [e1]
      refine contract_ofG (ps := [.sl 0 []]) (p := .sl 0 []) fun w com vals hv hfr hgl => ?_
      obtain ⟨v, vs, rfl, hv1, hn⟩ := hv.of_cons
      rw [hn.of_nil]
      have fin : ∀ (a : Option Addr) (c : Nat), Calls Try.prog 72 #[.slice a 0 c] w fun e w' => ∃ a' c', e = .returned (.slice a' 0 c') ∧ Below w.heap.size w w' := fun a c => by
        cases a with
        | none => exact cloP_nil c w
        | some a => exact cloP_some a c w
      cases hv1 with
      | sl0 a c =>
        refine (fin a c).mono ?_
        rintro e w' ⟨a', c', rfl, hb⟩
        exact ⟨.slice a' 0 c', com, rfl, .sl0 a' c', ⟨fun _ => Nat.le_refl _, fun b i hi => contract_flatG.cell_of_block (hb.block b (by
          rcases Nat.lt_or_ge b w.heap.size with h | h
          · exact h
          · rw [hfr b h] at hi; exact absurd hi (Nat.not_lt_zero _)))⟩, fun b hs => hfr b (Nat.le_trans hb.size hs), fun _ _ => rfl, hb⟩
      | sl b off n cap cs l hn hl h1 hc hm he =>
        refine (fin _ _).mono ?_
        rintro e w' ⟨a', c', rfl, hb⟩
        exact ⟨.slice a' 0 c', com, rfl, .sl0 a' c', ⟨fun _ => Nat.le_refl _, fun b i hi => contract_flatG.cell_of_block (hb.block b (by
          rcases Nat.lt_or_ge b w.heap.size with h | h
          · exact h
          · rw [hfr b h] at hi; exact absurd hi (Nat.not_lt_zero _)))⟩, fun b hs => hfr b (Nat.le_trans hb.size hs), fun _ _ => rfl, hb⟩
    | cons x t =>
      refine ok_CloP1.2 _ _ _ ?_
      unfold E_CloP1
      dsimp only
      rw [hc, e1, dT (show 1 ≤ (x :: t).length by rw [List.length_cons]; omega)]
      rfl
  · cases h⟩
theorem ok_CloS : EntryOk Try.prog 71 E_CloS := entry_of mix (tab := []) trivial (lp := [(1000000, [5, 7], [])]) (LO := LO0) ⟨Try.func71, by kernel_rfl, by kernel_rfl⟩ (by kernel_rfl) fun ivs res bxs h => by
  unfold E_CloS at h
  split at h
  · rename_i p
    obtain ⟨hc, he⟩ := pick1 h
    cases he
    rw [Bool.and_eq_true, decide_eq_true_eq] at hc
    obtain ⟨t, rfl, ht⟩ := isL_inv hc.1
    have e1 : asL (pL t) = t := asL_mk t
    have h2 := hc.2
    rw [e1] at h2 ⊢
    have hl := ht.1
    cases t with
    | nil => simp at h2
    | cons x t =>
      have tree := q_CloS_eq x t
      rw [List.length_cons] at hl
      have b1 : Nat.beq (PV.str x :: List.map PV.str t).length ((t.length + 1) * 1) = true := by rw [List.length_cons, List.length_map, Nat.mul_one]; exact Nat.beq_refl _
      rw [b1, dT (show 0 + (t.length + 1) ≤ 140737488351232 by omega), dT (show (0 + (t.length + 1)) * 16 ≤ 140737488355328 by omega), Nat.zero_add] at tree
      exact ⟨noLoop (by kernel_rfl), tree⟩
  · cases h
theorem EqP_loop (t u : List PutT) (ht : shPs t) (hu : shPs u) (hlen : t.length = u.length) : ∀ (c i : Nat), c + i = t.length → LoopsTo (rdB brC Try.prog [] lp_Eq LO_EqP Try.f42 4 []) [aP (pPs t), aP (pPs u), aI t.length, aI i]
    (if sameP (t.drop i) (u.drop i) = true then (.exit 0, [aX]) else (.ret, [aB false])) := by
  have hl := ht.1
  intro c
  induction c with
  | zero =>
    intro i hc
    obtain rfl : i = t.length := by omega
    have h0 : sameP (t.drop t.length) (u.drop t.length) = true := holds_mk (by rw [List.drop_length, hlen, List.drop_length])
    rw [if_pos h0]
    refine .done _ _ ((r_EqP_eq t u t.length).trans ?_)
    rw [dF (by omega)]
    rfl
  | succ c ih =>
    intro i hc
    have hi : i < t.length := by omega
    have hi2 : i < u.length := by omega
    have ih' := ih (i + 1) (by omega)
    have tree := r_EqP_eq t u i
    simp (disch := omega) only [show decide ((i : Int) < (t.length : Int)) = true from dT (by omega), show decide ((i : Int) < (u.length : Int)) = true from dT (by omega), show decide (0 ≤ (i : Int)) = true from dT (by omega), Int.toNat_natCast, drop_encP t i hi, drop_encP u i hi2, List.length_cons, List.headD_cons, List.tail_cons, PV.isStr, PV.asStr, PV.isInt, PV.asInt, ble2, wrap1, Bool.and_true, Bool.true_and] at tree
    rw [List.drop_eq_getElem_cons hi, List.drop_eq_getElem_cons hi2, sameP_cons]
    have hs : (t[i].at_ == u[i].at_ && (ByteArray.toList t[i].byt == ByteArray.toList u[i].byt)) = decide (t[i] = u[i]) := by
      rw [Bool.eq_iff_iff, Bool.and_eq_true, beq_iff_eq, decide_eq_true_eq]
      constructor
      · rintro ⟨h1, h2⟩
        have h3 : t[i].byt = u[i].byt := sEq_iff.1 h2
        cases ha : t[i]
        cases hb : u[i]
        rw [ha, hb] at h1 h3
        simp only at h1 h3
        rw [h1, h3]
      · intro h
        rw [h]
        exact ⟨rfl, sEq_self _⟩
    rw [hs] at tree
    by_cases hab : t[i] = u[i]
    · rw [dT hab] at tree
      rw [dT hab, Bool.true_and]
      exact .step _ _ _ tree ih'
    · rw [dF hab] at tree
      rw [dF hab, Bool.false_and, if_neg Bool.false_ne_true]
      exact .done _ _ tree
theorem ok_EqP : EntryOk Try.prog 42 E_EqP := entry_of mix (tab := []) trivial (lp := lp_Eq) (LO := LO_EqP) ⟨Try.func42, by kernel_rfl, by kernel_rfl⟩ (by kernel_rfl) fun ivs res bxs h => by
  unfold E_EqP at h
  split at h
  · rename_i p q
    obtain ⟨hc, he⟩ := pick1 h
    cases he
    rw [Bool.and_eq_true] at hc
    obtain ⟨t, rfl, ht⟩ := isPs_inv hc.1
    obtain ⟨u, rfl, hu⟩ := isPs_inv hc.2
    have e1 : asPs (pPs t) = t := asPs_mk t
    have e2 : asPs (pPs u) = u := asPs_mk u
    have e3 : isPs (pPs t) = true := isPs_mk ht
    have e4 : isPs (pPs u) = true := isPs_mk hu
    rw [e1, e2]
    refine ⟨oneLoop 4 (by kernel_rfl) (by kernel_rfl) (by kernel_rfl) ?_, (q_EqP_eq t u).trans ?_⟩
    · intro ls e ls' hl
      unfold LO_EqP at hl
      split at hl
      · rename_i p q n i
        cases hg : (isPs p && isPs q && (n == ((asPs p).length : Int)) && (i == 0) && Nat.beq (asPs p).length (asPs q).length) with
        | false => rw [hg] at hl; simp only [pickA, Bool.false_and, cond_false] at hl; cases hl
        | true =>
          rw [hg, Bool.true_and] at hl
          simp only [Bool.and_eq_true, beq_iff_eq] at hg
          obtain ⟨⟨⟨⟨g1, g2⟩, g3⟩, g4⟩, g5⟩ := hg
          obtain ⟨a, rfl, ha⟩ := isPs_inv g1
          obtain ⟨b, rfl, hb⟩ := isPs_inv g2
          have f1 : asPs (pPs a) = a := asPs_mk a
          have f2 : asPs (pPs b) = b := asPs_mk b
          rw [f1, f2] at hl g5
          rw [f1] at g3
          have := EqP_loop a b ha hb (Nat.eq_of_beq_eq_true g5) a.length 0 (by omega)
          rw [List.drop_zero, List.drop_zero] at this
          rw [g3, g4]
          cases hB : sameP a b with
          | true => rw [hB] at hl this; cases hl; exact this
          | false => rw [hB] at hl this; cases hl; exact this
      · cases hl
    · simp only [e1, e2, e3, e4, beq_self_eq_true, Bool.and_true, Bool.true_and]
      by_cases hlen : t.length = u.length
      · have q1 : ((t.length : Int) != (u.length : Int)) = false := by simp [hlen]
        have q2 : Nat.beq t.length u.length = true := by rw [hlen]; exact Nat.beq_refl _
        rw [q1, q2]
        cases sameP t u <;> rfl
      · have q1 : ((t.length : Int) != (u.length : Int)) = true := by simp; omega
        have q3 : sameP t u = false := by
          cases hs : sameP t u with
          | false => rfl
          | true => exact absurd (by rw [holds_inv hs]) hlen
        rw [q1, q3]
        rfl
  · cases h
theorem EqS_loop (t u : List ByteArray) (ht : shL t) (hu : shL u) (hlen : t.length = u.length) : ∀ (c i : Nat), c + i = t.length → LoopsTo (rdB brC Try.prog [] lp_Eq LO_EqS Try.f41 4 []) [aP (pL t), aP (pL u), aI t.length, aI i]
    (if sameS (t.drop i) (u.drop i) = true then (.exit 0, [aX]) else (.ret, [aB false])) := by
  have hl := ht.1
  intro c
  induction c with
  | zero =>
    intro i hc
    obtain rfl : i = t.length := by omega
    have h0 : sameS (t.drop t.length) (u.drop t.length) = true := holds_mk (by rw [List.drop_length, hlen, List.drop_length])
    rw [if_pos h0]
    refine .done _ _ ((r_EqS_eq t u t.length).trans ?_)
    rw [dF (by omega)]
    rfl
  | succ c ih =>
    intro i hc
    have hi : i < t.length := by omega
    have hi2 : i < u.length := by omega
    have ih' := ih (i + 1) (by omega)
    have tree := r_EqS_eq t u i
    simp (disch := omega) only [show decide ((i : Int) < (t.length : Int)) = true from dT (by omega), show decide ((i : Int) < (u.length : Int)) = true from dT (by omega), show decide (0 ≤ (i : Int)) = true from dT (by omega), Int.toNat_natCast, drop_strs t i hi, drop_strs u i hi2, List.length_cons, List.headD_cons, PV.isStr, PV.asStr, blt0, wrap1, Bool.and_true, Bool.true_and] at tree
    rw [List.drop_eq_getElem_cons hi, List.drop_eq_getElem_cons hi2, sameS_cons]
    by_cases hab : t[i] = u[i]
    · have hs : (ByteArray.toList t[i] == ByteArray.toList u[i]) = true := sEq_iff.2 hab
      rw [hs] at tree
      rw [sEq_iff.2 hab, Bool.true_and]
      exact .step _ _ _ tree ih'
    · have hs : (ByteArray.toList t[i] == ByteArray.toList u[i]) = false := sEq_false.2 hab
      rw [hs] at tree
      rw [sEq_false.2 hab, Bool.false_and, if_neg Bool.false_ne_true]
      exact .done _ _ tree
theorem ok_EqS : EntryOk Try.prog 41 E_EqS := entry_of mix (tab := []) trivial (lp := lp_Eq) (LO := LO_EqS) ⟨Try.func41, by kernel_rfl, by kernel_rfl⟩ (by kernel_rfl) fun ivs res bxs h => by
  unfold E_EqS at h
  split at h
  · rename_i p q
    obtain ⟨hc, he⟩ := pick1 h
    cases he
    rw [Bool.and_eq_true] at hc
    obtain ⟨t, rfl, ht⟩ := isL_inv hc.1
    obtain ⟨u, rfl, hu⟩ := isL_inv hc.2
    have e1 : asL (pL t) = t := asL_mk t
    have e2 : asL (pL u) = u := asL_mk u
    have e3 : isL (pL t) = true := isL_mk ht
    have e4 : isL (pL u) = true := isL_mk hu
    rw [e1, e2]
    refine ⟨oneLoop 4 (by kernel_rfl) (by kernel_rfl) (by kernel_rfl) ?_, (q_EqS_eq t u).trans ?_⟩
    · intro ls e ls' hl
      unfold LO_EqS at hl
      split at hl
      · rename_i p q n i
        cases hg : (isL p && isL q && (n == ((asL p).length : Int)) && (i == 0) && Nat.beq (asL p).length (asL q).length) with
        | false => rw [hg] at hl; simp only [pickA, Bool.false_and, cond_false] at hl; cases hl
        | true =>
          rw [hg, Bool.true_and] at hl
          simp only [Bool.and_eq_true, beq_iff_eq] at hg
          obtain ⟨⟨⟨⟨g1, g2⟩, g3⟩, g4⟩, g5⟩ := hg
          obtain ⟨a, rfl, ha⟩ := isL_inv g1
          obtain ⟨b, rfl, hb⟩ := isL_inv g2
          have f1 : asL (pL a) = a := asL_mk a
          have f2 : asL (pL b) = b := asL_mk b
          rw [f1, f2] at hl g5
          rw [f1] at g3
          have := EqS_loop a b ha hb (Nat.eq_of_beq_eq_true g5) a.length 0 (by omega)
          rw [List.drop_zero, List.drop_zero] at this
          rw [g3, g4]
          cases hB : sameS a b with
          | true => rw [hB] at hl this; cases hl; exact this
          | false => rw [hB] at hl this; cases hl; exact this
      · cases hl
    · simp only [e1, e2, e3, e4, beq_self_eq_true, Bool.and_true, Bool.true_and]
      by_cases hlen : t.length = u.length
      · have q1 : ((t.length : Int) != (u.length : Int)) = false := by simp [hlen]
        have q2 : Nat.beq t.length u.length = true := by rw [hlen]; exact Nat.beq_refl _
        rw [q1, q2]
        cases sameS t u <;> rfl
      · have q1 : ((t.length : Int) != (u.length : Int)) = true := by simp; omega
        have q3 : sameS t u = false := by
          cases hs : sameS t u with
          | false => rfl
          | true => exact absurd (by rw [holds_inv hs]) hlen
        rw [q1, q3]
        rfl
  · cases h
theorem ok_hgb0 : EntriesOk Try.prog hgb0 := ⟨ok_CloP, ok_CloS, ok_EqP, ok_EqS, ok_IDk, ok_allW, ok_ris, ok_hfb2⟩
theorem ok_Same : EntryOk Try.prog 16 E_Same := entry_of mix ok_hgb0 (lp := []) (LO := LO0) ⟨Try.func16, by kernel_rfl, by kernel_rfl⟩ (by kernel_rfl) fun ivs res bxs h => by
  unfold E_Same at h
  split at h
  · rename_i p q
    obtain ⟨hc, he⟩ := pick1 h
    cases he
    rw [Bool.and_eq_true] at hc
    obtain ⟨a, rfl, ha⟩ := isDk_inv hc.1
    obtain ⟨b, rfl, hb⟩ := isDk_inv hc.2
    have e1 : asDk (pDk a) = a := asDk_mk a
    have e2 : asDk (pDk b) = b := asDk_mk b
    have f1 : isL (PV.sl a.secs.length (a.secs.map .str)) = true := isL_mk ha.2.1
    have f2 : asL (PV.sl a.secs.length (a.secs.map .str)) = a.secs := asL_mk _
    have f3 : isL (PV.sl b.secs.length (b.secs.map .str)) = true := isL_mk hb.2.1
    have f4 : asL (PV.sl b.secs.length (b.secs.map .str)) = b.secs := asL_mk _
    have f5 : isPs (PV.sl a.puts.length (encP a.puts)) = true := isPs_mk ha.2.2
    have f6 : asPs (PV.sl a.puts.length (encP a.puts)) = a.puts := asPs_mk _
    have f7 : isPs (PV.sl b.puts.length (encP b.puts)) = true := isPs_mk hb.2.2
    have f8 : asPs (PV.sl b.puts.length (encP b.puts)) = b.puts := asPs_mk _
    rw [e1, e2]
    refine ⟨noLoop (by kernel_rfl), (q_Same_eq a b).trans ?_⟩
    rw [f1, f2, f3, f4, f5, f6, f7, f8]
    unfold sameDk
    cases (a.wide == b.wide) <;> cases sameS a.secs b.secs <;> rfl
  · cases h
theorem ok_cpy : EntryOk Try.prog 35 E_cpy := entry_of mix ok_hgb0 (lp := [(1000000, [], [])]) (LO := LO0) ⟨Try.func35, by kernel_rfl, by kernel_rfl⟩ (by kernel_rfl) fun ivs res bxs h => by
  unfold E_cpy at h
  split at h
  · rename_i p
    obtain ⟨hc, he⟩ := pick1 h
    cases he
    rw [Bool.and_eq_true, decide_eq_true_eq] at hc
    obtain ⟨a, rfl, ha⟩ := isDk_inv hc.1
    have e1 : asDk (pDk a) = a := asDk_mk a
    have h2 := hc.2
    rw [e1] at h2 ⊢
    have f1 : isL (PV.sl a.secs.length (a.secs.map .str)) = true := isL_mk ha.2.1
    have f2 : asL (PV.sl a.secs.length (a.secs.map .str)) = a.secs := asL_mk _
    have f5 : isPs (PV.sl a.puts.length (encP a.puts)) = true := isPs_mk ha.2.2
    have f6 : asPs (PV.sl a.puts.length (encP a.puts)) = a.puts := asPs_mk _
    refine ⟨noLoop (by kernel_rfl), (q_cpy_eq a).trans ?_⟩
    rw [f1, f2, f5, f6, dT h2]
    rfl
  · cases h
theorem set_strs (ss : List ByteArray) (J : Nat) (x : ByteArray) (h : J < ss.length) : List.take (J * 1) (ss.map PV.str) ++ [PV.str x] ++ List.drop (J * 1 + 1) (ss.map PV.str) = (ss.set J x).map PV.str := by
  rw [Nat.mul_one, List.set_eq_take_append_cons_drop, if_pos h, List.map_append, List.map_cons, List.map_take, List.map_drop, List.append_assoc]
  rfl
theorem inS_at {m : Nat} {t : List PutT} (h : inS m t = true) {i : Nat} (hi : i < t.length) : 0 ≤ t[i].at_ ∧ t[i].at_ < (m : Int) := by
  have := List.all_eq_true.1 h _ (List.getElem_mem hi)
  rw [Bool.and_eq_true, decide_eq_true_eq, decide_eq_true_eq] at this
  exact this
theorem fl_loop (w : PV) (q : PV) (t : List PutT) (ht : shPs t) : ∀ (c i : Nat) (ss : List ByteArray), c + i = t.length → inS ss.length t = true → LoopsTo (rdB brC Try.prog [] lp_fl LO_fl Try.f36 1 [0]) [aB0 [.pv w, .lst 1 9 ss.length (ss.map .str) true, .pv q], aP (pPs t), aI t.length, aI i]
    (.exit 0, [aB0 [.pv w, .lst 1 9 ss.length ((flushS (t.drop i) ss).map .str) true, .pv q]]) := by
  have hl := ht.1
  intro c
  induction c with
  | zero =>
    intro i ss hc hin
    obtain rfl : i = t.length := by omega
    rw [List.drop_length]
    refine .done _ _ ((r_fl_eq w ss q t t.length).trans ?_)
    rw [dF (by omega)]
    rfl
  | succ c ih =>
    intro i ss hc hin
    have hi : i < t.length := by omega
    obtain ⟨a1, a2⟩ := inS_at hin hi
    obtain ⟨J, hJ⟩ := Int.eq_ofNat_of_zero_le a1
    have hJ2 : J < ss.length := by omega
    have tree := r_fl_eq w ss q t i
    have b1 : ∀ x : PV, Nat.beq (List.length [x]) 1 = true := fun _ => rfl
    have b4 : Nat.ble (J * 1 + 1) (ss.map PV.str).length = true := Nat.ble_eq_true_of_le (by rw [List.length_map]; omega)
    simp (disch := omega) only [show decide ((i : Int) < (t.length : Int)) = true from dT (by omega), show decide (0 ≤ (i : Int)) = true from dT (by omega), Int.toNat_natCast, drop_encP t i hi, List.length_cons (a := PV.int IntKind.i64 t[i].at_), List.length_cons (a := PV.str t[i].byt), List.headD_cons, List.tail_cons, PV.isStr, PV.asStr, PV.isInt, PV.asInt, ble2, wrap1, hJ, b1, b4, dT, Bool.and_true, Bool.true_and] at tree
    rw [set_strs ss J _ hJ2] at tree
    have ih' := ih (i + 1) (ss.set J t[i].byt) (by omega) (by rw [List.length_set]; exact hin)
    rw [List.length_set] at ih'
    rw [List.drop_eq_getElem_cons hi]
    unfold flushS setS
    rw [hJ, if_pos (by omega), Int.toNat_natCast]
    exact .step _ _ _ tree ih'
theorem ok_fl : EntryOk Try.prog 36 E_fl := entry_of mix (tab := []) trivial (lp := lp_fl) (LO := LO_fl) ⟨Try.func36, by kernel_rfl, by kernel_rfl⟩ (by kernel_rfl) fun ivs res bxs h => by
  unfold E_fl at h
  split at h
  · rename_i w e cn cl q
    obtain ⟨hc, he⟩ := pick1 h
    cases he
    simp only [Bool.and_eq_true] at hc
    obtain ⟨⟨⟨h1, h2⟩, h3⟩, h4⟩ := hc
    obtain ⟨ss, hss, hs⟩ := isL_inv h1
    injection hss with hs1 hs2
    subst hs1 hs2
    obtain ⟨t, rfl, ht⟩ := isPs_inv h2
    have e1 : asPs (pPs t) = t := asPs_mk t
    have e2 : asL (PV.sl ss.length (ss.map .str)) = ss := asL_mk ss
    have e3 : isPs (pPs t) = true := isPs_mk ht
    rw [e1] at h4 ⊢
    rw [e2, Nat.eq_of_beq_eq_true h3]
    refine ⟨oneLoop 1 (by kernel_rfl) (by kernel_rfl) (by kernel_rfl) ?_, (q_fl_eq w ss t).trans ?_⟩
    · intro ls e ls' hl
      unfold LO_fl at hl
      split at hl
      · rename_i w e cn cl q p n i
        obtain ⟨hc, he⟩ := pick1 hl
        cases he
        simp only [Bool.and_eq_true, beq_iff_eq] at hc
        obtain ⟨⟨⟨⟨⟨g1, g2⟩, g3⟩, g4⟩, g5⟩, g6⟩ := hc
        obtain ⟨ss, hss, hs⟩ := isL_inv g1
        injection hss with hs1 hs2
        subst hs1 hs2
        obtain ⟨t, rfl, ht⟩ := isPs_inv g2
        have e1 : asPs (pPs t) = t := asPs_mk t
        have e2 : asL (PV.sl ss.length (ss.map .str)) = ss := asL_mk ss
        rw [e1] at g4 g6 ⊢
        rw [e2, Nat.eq_of_beq_eq_true g3, g4, g5]
        have := fl_loop w q t ht t.length 0 ss (by omega) g6
        rw [List.drop_zero] at this
        exact this
      · cases hl
    · rw [h1, e1, e2, e3, h4, beq_self_eq_true]
      rfl
  · cases h
theorem ok_hgb1 : EntriesOk Try.prog hgb1 := ⟨ok_fl, ok_cpy, ok_Same, ok_hgb0⟩
/-- What the flush makes of a right disk. -/
def flD (d : DskT) : DskT := ⟨d.wide, flushS d.puts d.secs, []⟩
noncomputable def E_Flush : Entry := fun ivs => match ivs with | [.cv (.pv p)] => [(isDk p && dskB (asDk p), dkC (flD (asDk p)), [])] | _ => []
theorem dsk_facts {d : DskT} (h : dskB d = true) : 1 ≤ d.wide ∧ d.wide ≤ 2000 ∧ 1 ≤ d.secs.length ∧ d.secs.length ≤ 400 ∧ d.puts.length ≤ 400 ∧ (∀ s ∈ d.secs, (s.size : Int) = d.wide) ∧ (∀ x ∈ d.puts, 0 ≤ x.at_ ∧ x.at_ < (d.secs.length : Int) ∧ (x.byt.size : Int) = d.wide) := by
  unfold dskB at h
  simp only [Bool.and_eq_true, decide_eq_true_eq, List.all_eq_true] at h
  obtain ⟨⟨⟨⟨⟨⟨h1, h2⟩, h3⟩, h4⟩, h5⟩, h6⟩, h7⟩ := h
  refine ⟨h1, h2, h3, h4, h5, h6, fun x hx => ?_⟩
  have := h7 x hx
  unfold okPut at this
  simp only [Bool.and_eq_true, decide_eq_true_eq] at this
  exact ⟨this.1.1, by omega, this.2⟩
theorem dsk_inS {d : DskT} (h : dskB d = true) : inS d.secs.length d.puts = true := List.all_eq_true.2 fun x hx => by
  obtain ⟨a, b, _⟩ := (dsk_facts h).2.2.2.2.2.2 x hx
  rw [dT a, dT b]
  rfl
theorem ok_Flush : EntryOk Try.prog 14 E_Flush := entry_ofM mix ok_hgb1 (lp := [(1000000, [], [11])]) (LO := LO0) ⟨Try.func14, by kernel_rfl, by kernel_rfl⟩ (by kernel_rfl) fun ivs res bxs h => by
  unfold E_Flush at h
  split at h
  · rename_i p
    obtain ⟨hc, he⟩ := pick1 h
    cases he
    rw [Bool.and_eq_true] at hc
    obtain ⟨a, rfl, ha⟩ := isDk_inv hc.1
    have e1 : asDk (pDk a) = a := asDk_mk a
    have h2 := hc.2
    rw [e1] at h2 ⊢
    have f0 : isDk (PV.agg [PV.int .i64 a.wide, PV.sl a.secs.length (a.secs.map .str), PV.sl a.puts.length (encP a.puts)]) = true := isDk_mk ha
    have f00 : asDk (PV.agg [PV.int .i64 a.wide, PV.sl a.secs.length (a.secs.map .str), PV.sl a.puts.length (encP a.puts)]) = a := asDk_mk a
    have f1 : isL (PV.sl a.secs.length (a.secs.map .str)) = true := isL_mk ha.2.1
    have f2 : asL (PV.sl a.secs.length (a.secs.map .str)) = a.secs := asL_mk _
    have f5 : isPs (pPs a.puts) = true := isPs_mk ha.2.2
    have f6 : asPs (pPs a.puts) = a.puts := asPs_mk _
    have tree := q_Flush_eq a
    rw [f0, f00, f1, f2, f5, f6, h2, dsk_inS h2, dT (dsk_facts h2).2.2.1] at tree
    refine ⟨noLoop (by kernel_rfl), _, tree, rfl, ?_⟩
    show IV.agg [_, .pv (.sl a.secs.length _), _] = IV.agg [_, .pv (.sl (flushS a.puts a.secs).length _), _]
    rw [flushS_len]
    rfl
  · cases h
end Go.Proofs.Ytjbjgeekglpmlaa
