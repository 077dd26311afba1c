/- The reference's lexer, by the reckoner: proofs, first part. -/
import Derived.Test.YtjbjgeekglpmlaaDoorPlT
namespace Go.Proofs.YtjbjgeekglpmlaaDoor
open Go.RowKit
set_option linter.unusedVariables false
set_option linter.unusedSimpArgs false

theorem mix : Tryd.prog.follows .mixedOrders = true := by kernel_rfl
theorem okS_inv {s : ByteArray} {i : Int} (h : okS s i = true) : ∃ k : Nat, i = k ∧ k ≤ s.size ∧ s.size ≤ 1048576 := by
  unfold okS at h
  simp only [Bool.and_eq_true, decide_eq_true_eq] at h
  exact ⟨i.toNat, by omega, by omega, h.2⟩
theorem okS_mk {s : ByteArray} {k : Nat} (h : k ≤ s.size) (h2 : s.size ≤ 1048576) : okS s k = true := by
  unfold okS
  simp only [Bool.and_eq_true, decide_eq_true_eq]
  omega
theorem SL_nat (s : ByteArray) (k : Nat) : SL s k = s.data.toList.drop k := rfl
theorem len_size (s : ByteArray) : s.data.toList.length = s.size := Array.length_toList
/-- What stands at a place. -/
theorem drop_cases (s : ByteArray) (k : Nat) (h : k ≤ s.size) : (k = s.size ∧ s.data.toList.drop k = []) ∨ (k < s.size ∧ ∃ c, s.data.toList.drop k = c :: s.data.toList.drop (k + 1) ∧ s.data.toList.getD k 0 = c) := by
  rcases Nat.lt_or_ge k s.size with hk | hk
  · have hk' : k < s.data.toList.length := by rw [len_size]; exact hk
    refine .inr ⟨hk, s.data.toList[k], List.drop_eq_getElem_cons hk', ?_⟩
    rw [List.getD_eq_getElem?_getD, List.getElem?_eq_getElem hk']
    rfl
  · refine .inl ⟨by omega, List.drop_eq_nil_of_le (by rw [len_size]; exact hk)⟩
theorem letterZ_nat (n : Nat) : letterZ n = letterB n := by
  unfold letterZ letterB
  rw [Bool.eq_iff_iff]
  simp only [Bool.or_eq_true, Bool.and_eq_true, decide_eq_true_eq]
  omega
theorem digitZ_nat (n : Nat) : digitZ n = digitB n := by
  unfold digitZ digitB
  rw [Bool.eq_iff_iff]
  simp only [Bool.and_eq_true, decide_eq_true_eq]
  omega
theorem wrapN {k : Nat} {n : Int} (h : k ≤ 2305843009213693952) (h1 : 0 ≤ n) (h2 : n ≤ 2305843009213693952) : IntKind.wrap .i64 ((k : Int) + n) = k + n := wrapI (by omega) (by omega)

theorem bs_toList (l : List UInt8) : (bs l).toList = l := ByteArray.toList_mk l
theorem bs_self (s : ByteArray) : bs s.data.toList = s := by cases s; rfl
theorem extract_bs (s : ByteArray) (i j : Nat) : s.extract i j = bs ((s.data.toList.drop i).take (j - i)) := by
  have : (s.extract i j).data.toList = (s.data.toList.drop i).take (j - i) := by
    rw [ByteArray.data_extract, Array.toList_extract, List.extract_eq_take_drop]
  rw [← this, bs_self]
theorem u8_lit (c : UInt8) (n : Nat) (h : n < 256) : ((c.toNat : Int) == (n : Int)) = (c == UInt8.ofNat n) := by
  rw [Bool.eq_iff_iff, beq_iff_eq, beq_iff_eq]
  constructor
  · intro e
    have e' : c.toNat = n := by omega
    rw [← e', UInt8.ofNat_toNat]
  · intro e
    rw [e, UInt8.toNat_ofNat_of_lt' (by simpa using h)]
theorem isDig_nat (c : UInt8) : isDig c = digitB c.toNat := by
  unfold isDig digitB
  simp [UInt8.le_iff_toNat_le]

theorem at_letter : FnAt Tryd.prog 39 Tryd.f39 := ⟨Tryd.func39, by kernel_rfl, by kernel_rfl⟩
theorem at_digit : FnAt Tryd.prog 37 Tryd.f37 := ⟨Tryd.func37, by kernel_rfl, by kernel_rfl⟩
theorem at_run : FnAt Tryd.prog 40 Tryd.f40 := ⟨Tryd.func40, by kernel_rfl, by kernel_rfl⟩
theorem at_digits : FnAt Tryd.prog 41 Tryd.f41 := ⟨Tryd.func41, by kernel_rfl, by kernel_rfl⟩

theorem ok_letter : EntryOk Tryd.prog 39 E_letter := entry_of mix (tab := []) trivial (lp := []) (LO := LO0) at_letter (by kernel_rfl) fun ivs res bxs h => by
  unfold E_letter at h
  split at h
  · rename_i n
    cases h
    refine ⟨noLoop (by kernel_rfl), (q_letter_eq n).trans ?_⟩
    unfold letterZ brC
    by_cases h1 : 97 ≤ n <;> by_cases h2 : n ≤ 122 <;> by_cases h3 : 65 ≤ n <;> simp [h1, h2, h3]
  · cases h
theorem ok_digit : EntryOk Tryd.prog 37 E_digit := entry_of mix (tab := []) trivial (lp := []) (LO := LO0) at_digit (by kernel_rfl) fun ivs res bxs h => by
  unfold E_digit at h
  split at h
  · rename_i n
    cases h
    refine ⟨noLoop (by kernel_rfl), (q_digit_eq n).trans ?_⟩
    unfold digitZ brC
    by_cases h1 : 48 ≤ n <;> simp [h1]
  · cases h
theorem ok_tab0 : EntriesOk Tryd.prog tab0 := ⟨ok_digit, ok_letter, trivial⟩

/-- A loop that runs on while the bytes are of a kind. -/
theorem scan_loop {f : LS → Option (Sum LS (Ex × LS))} {p : UInt8 → Bool} {s : ByteArray} {e : Ex} (hstep : ∀ (k : Nat) (c : UInt8), k < s.size → s.data.toList.getD k 0 = c → p c = true → f [aS s, aI k] = some (.inl [aS s, aI ((k : Int) + 1)]))
    (hstop : ∀ (k : Nat) (c : UInt8), k < s.size → s.data.toList.getD k 0 = c → p c = false → f [aS s, aI k] = some (.inr (e, [aI k]))) (hend : f [aS s, aI s.size] = some (.inr (e, [aI s.size]))) :
    ∀ (m k : Nat), s.size - k = m → k ≤ s.size → LoopsTo f [aS s, aI k] (e, [aI (k + ((s.data.toList.drop k).takeWhile p).length)]) := by
  intro m
  induction m with
  | zero =>
    intro k hm hk
    obtain rfl : k = s.size := by omega
    refine .done _ _ (hend.trans ?_)
    rw [List.drop_eq_nil_of_le (by rw [len_size]; exact Nat.le_refl _)]
    simp
  | succ m ih =>
    intro k hm hk
    rcases drop_cases s k hk with ⟨h1, _⟩ | ⟨h1, c, h2, h3⟩
    · omega
    · rw [h2]
      cases hp : p c with
      | true =>
        refine .step _ _ _ (hstep k c h1 h3 hp) ?_
        have := ih (k + 1) (by omega) (by omega)
        rw [List.takeWhile_cons, hp]
        simp only [if_true, List.length_cons]
        have e1 : ((k : Int) + 1) = ((k + 1 : Nat) : Int) := by omega
        have e2 : (k : Int) + (((List.takeWhile p (List.drop (k + 1) s.data.toList)).length + 1 : Nat) : Int) = ((k + 1 : Nat) : Int) + ((List.takeWhile p (List.drop (k + 1) s.data.toList)).length : Int) := by omega
        rw [e1, e2]
        exact this
      | false =>
        refine .done _ _ ((hstop k c h1 h3 hp).trans ?_)
        rw [List.takeWhile_cons, hp]
        simp

theorem ok_run : EntryOk Tryd.prog 40 E_run := entry_of mix ok_tab0 (lp := lp_run) (LO := LO_run) at_run (by kernel_rfl) fun ivs res bxs h => by
  unfold E_run at h
  split at h
  · rename_i s i
    obtain ⟨hc, he⟩ := pick1 h
    cases he
    refine ⟨oneLoop 1 (by kernel_rfl) (by kernel_rfl) (by kernel_rfl) ?_, (q_run_eq s i).trans (by rw [hc]; rfl)⟩
    intro ls e ls' hl
    unfold LO_run at hl
    split at hl
    · rename_i s i
      obtain ⟨hc, he⟩ := pick1 hl
      cases he
      obtain ⟨k, rfl, hk, hs⟩ := okS_inv hc
      refine scan_loop (p := nameCh) (fun k c h1 h2 hp => (r_run_eq s k).trans ?_) (fun k c h1 h2 hp => (r_run_eq s k).trans ?_) ((r_run_eq s s.size).trans ?_) _ k rfl hk
      · unfold nameCh at hp
        simp (disch := omega) only [Int.toNat_natCast, h2, letterZ_nat, digitZ_nat, wrapI, dT, dF]
        cases h3 : letterB c.toNat
        · rw [h3, Bool.false_or] at hp
          rw [hp]; rfl
        · rfl
      · unfold nameCh at hp
        rw [Bool.or_eq_false_iff] at hp
        simp (disch := omega) only [Int.toNat_natCast, h2, letterZ_nat, digitZ_nat, wrapI, dT, dF, hp.1, hp.2]
        rfl
      · simp (disch := omega) only [dT, dF]
        rfl
    · cases hl
  · cases h
theorem ok_digits : EntryOk Tryd.prog 41 E_digits := entry_of mix ok_tab0 (lp := lp_run) (LO := LO_digits) at_digits (by kernel_rfl) fun ivs res bxs h => by
  unfold E_digits at h
  split at h
  · rename_i s i
    obtain ⟨hc, he⟩ := pick1 h
    cases he
    refine ⟨oneLoop 1 (by kernel_rfl) (by kernel_rfl) (by kernel_rfl) ?_, (q_digits_eq s i).trans (by rw [hc]; rfl)⟩
    intro ls e ls' hl
    unfold LO_digits at hl
    split at hl
    · rename_i s i
      obtain ⟨hc, he⟩ := pick1 hl
      cases he
      obtain ⟨k, rfl, hk, hs⟩ := okS_inv hc
      refine scan_loop (p := isDig) (fun k c h1 h2 hp => (r_digits_eq s k).trans ?_) (fun k c h1 h2 hp => (r_digits_eq s k).trans ?_) ((r_digits_eq s s.size).trans ?_) _ k rfl hk
      · rw [isDig_nat] at hp
        simp (disch := omega) only [Int.toNat_natCast, h2, digitZ_nat, wrapI, dT, dF, hp]
        rfl
      · rw [isDig_nat] at hp
        simp (disch := omega) only [Int.toNat_natCast, h2, digitZ_nat, wrapI, dT, dF, hp]
        rfl
      · simp (disch := omega) only [dT, dF]
        rfl
    · cases hl
  · cases h

theorem wfS_inv {n : Nat} {l : List PV} (h : wfS n l = true) : l.length = n ∧ ∀ p ∈ l, p.isStr = true := by
  unfold wfS at h
  rw [Bool.and_eq_true] at h
  exact ⟨Nat.eq_of_beq_eq_true h.1, List.all_eq_true.1 h.2⟩
theorem two_loop (s : ByteArray) (a n : Nat) (l : List PV) (ha : a + 2 ≤ s.size) (hs : s.size ≤ 1048576) (hn : n ≤ 1048576) (hw : wfS n l = true) : ∀ (m i : Nat), n - i = m → i ≤ n →
    LoopsTo (rdB brC Tryd.prog tab0 lp_two LO_two Tryd.f42 5 []) [aS s, aI a, aL 5 1 9 n l, aI i] (if hasT l i ((SL s a).take 2) = true then (.ret, [aB true]) else (.exit 0, [aX])) := by
  obtain ⟨hl, hstr⟩ := wfS_inv hw
  intro m
  induction m with
  | zero =>
    intro i hm hi
    obtain rfl : i = n := by omega
    have hd : l.drop i = [] := List.drop_eq_nil_of_le (by omega)
    have : hasT l i ((SL s a).take 2) = false := by unfold hasT; rw [Int.toNat_natCast, hd]; rfl
    rw [this]
    refine .done _ _ ((r_two_eq s a i i l).trans ?_)
    simp (disch := omega) only [dT, dF]
    rfl
  | succ m ih =>
    intro i hm hi
    have hi' : i < l.length := by omega
    have hd : l.drop i = l[i] :: l.drop (i + 1) := List.drop_eq_getElem_cons hi'
    have hst := hstr l[i] (List.getElem_mem hi')
    have hx : s.extract a (a + 2) = bs ((SL s a).take 2) := by rw [extract_bs, SL_nat]; congr 2; omega
    have htree := r_two_eq s a i n l
    simp (disch := omega) only [dT, dF, wrapI, Int.toNat_natCast, Nat.mul_one, hd, List.length_cons, List.headD_cons, hst, Bool.and_true, show ((a : Int) + 2) = ((a + 2 : Nat) : Int) by omega, hx, bs_toList] at htree
    have hb : Nat.blt 0 ((l.drop (i + 1)).length + 1) = true := by simp [Nat.blt]
    rw [hb] at htree
    have hh : hasT l i ((SL s a).take 2) = (((SL s a).take 2) == l[i].asStr.toList || hasT l ((i + 1 : Nat) : Int) ((SL s a).take 2)) := by
      unfold hasT
      rw [Int.toNat_natCast, Int.toNat_natCast, hd]
      rfl
    cases hc : (((SL s a).take 2) == l[i].asStr.toList) with
    | true =>
      rw [hh, hc]
      rw [hc] at htree
      exact .done _ _ htree
    | false =>
      rw [hh, hc]
      rw [hc] at htree
      refine .step _ _ _ htree ?_
      have := ih (i + 1) (by omega) (by omega)
      simpa using this
theorem ok_two : EntryOk Tryd.prog 42 E_two := entry_of mix ok_tab0 (lp := lp_two) (LO := LO_two) ⟨Tryd.func42, by kernel_rfl, by kernel_rfl⟩ (by kernel_rfl) fun ivs res bxs h => by
  unfold E_two at h
  split at h
  · rename_i s i
    obtain ⟨hc, he⟩ := pick1 h
    cases he
    refine ⟨oneLoop 5 (by kernel_rfl) (by kernel_rfl) (by kernel_rfl) ?_, (q_two_eq s i).trans ?_⟩
    · intro ls e ls' hl
      unfold LO_two at hl
      split at hl
      · rename_i s a x e1 n l i
        have key : ∀ (a i : Int), okS s a = true → a + 2 ≤ s.size → 0 ≤ i → i ≤ n → n ≤ 1048576 → wfS n l = true →
            LoopsTo (rdB brC Tryd.prog tab0 lp_two LO_two Tryd.f42 5 []) [aS s, aI a, aL 5 1 9 n l, aI i] (if hasT l i ((SL s a).take 2) = true then (.ret, [aB true]) else (.exit 0, [aX])) := by
          intro a i h1 h2 h3 h4 h5 h6
          obtain ⟨a, rfl, ha, hs⟩ := okS_inv h1
          obtain ⟨i, rfl⟩ := Int.eq_ofNat_of_zero_le h3
          exact two_loop s a n l (by omega) hs h5 h6 _ i rfl (by omega)
        rcases pick2 hl with ⟨hc, he⟩ | ⟨hc1, hc, he⟩
        · cases he
          simp only [Bool.and_eq_true, decide_eq_true_eq] at hc
          obtain ⟨⟨⟨⟨⟨⟨⟨⟨h1, h2⟩, h3⟩, h4⟩, h5⟩, h6⟩, h7⟩, h8⟩, h9⟩ := hc
          have := key a i h1 h2 h3 h4 h5 h6
          rw [h9] at this
          rw [Nat.eq_of_beq_eq_true h7, Nat.eq_of_beq_eq_true h8]
          exact this
        · cases he
          rw [hc, Bool.true_and] at hc1
          simp only [Bool.and_eq_true, decide_eq_true_eq] at hc
          obtain ⟨⟨⟨⟨⟨⟨⟨h1, h2⟩, h3⟩, h4⟩, h5⟩, h6⟩, h7⟩, h8⟩ := hc
          have := key a i h1 h2 h3 h4 h5 h6
          rw [hc1] at this
          rw [Nat.eq_of_beq_eq_true h7, Nat.eq_of_beq_eq_true h8]
          exact this
      · cases hl
    · obtain ⟨k, rfl, hk, hs⟩ := okS_inv hc
      have hlen : (SL s k).length = s.size - k := by rw [SL_nat, List.length_drop, len_size]
      by_cases h2 : k + 2 ≤ s.size
      · simp (disch := omega) only [dT, dF, wrapI, hc, Bool.true_and]
        have e1 : hasT [PV.str { data := #[93, 93] }, PV.str { data := #[39, 61] }, PV.str { data := #[39, 60] }, PV.str { data := #[39, 62] }, PV.str { data := #[39, 91] }, PV.str { data := #[39, 93] }, PV.str { data := #[36, 36] }] 0 (List.take 2 (SL s k)) = isTwo (SL s k) := by
          have hx : ∃ x y r, SL s k = x :: y :: r := by
            match h : SL s k with
            | [] => rw [h] at hlen; simp at hlen; omega
            | [x] => rw [h] at hlen; simp at hlen; omega
            | x :: y :: r => exact ⟨x, y, r, rfl⟩
          obtain ⟨x, y, r, hx⟩ := hx
          rw [hx]
          unfold hasT isTwo twoS
          simp only [PV.asStr, ByteArray.toList_eq, List.isPrefixOf, Int.toNat_zero, List.drop_zero, List.any_cons, List.any_nil, List.take_succ_cons, List.take_zero, Bool.and_true]
          simp [Bool.beq_eq_decide_eq, eq_comm]
        rw [e1]
        cases isTwo (SL s k) <;> rfl
      · have e1 : isTwo (SL s k) = false := by
          unfold isTwo
          rw [List.any_eq_false]
          intro x hx hp
          have h1 : x.length = 2 := by
            have : ∀ x ∈ twoS, x.length = 2 := by decide
            exact this x hx
          have := (List.isPrefixOf_iff_prefix.1 hp).length_le
          omega
        simp (disch := omega) only [dT, dF, wrapI, e1]
        rfl
  · cases h
end Go.Proofs.YtjbjgeekglpmlaaDoor
