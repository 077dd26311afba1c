/- The reference's lexer, by the reckoner: proofs, second part. -/
import Derived.Test.YtjbjgeekglpmlaaDoorPlP
namespace Go.Proofs.YtjbjgeekglpmlaaDoor
open Go.RowKit
set_option linter.unusedVariables false
set_option linter.unusedSimpArgs false

theorem u8_of (c : Int) (h : 0 ≤ c) (h2 : c < 256) (d : UInt8) : ((d.toNat : Int) == c) = (d == UInt8.ofNat c.toNat) := by
  obtain ⟨n, rfl⟩ := Int.eq_ofNat_of_zero_le h
  exact u8_lit d n (by omega)
theorem sign_loop (c : Int) (s : ByteArray) (hc : 0 ≤ c) (hc2 : c < 256) (hs : s.size ≤ 1048576) : ∀ (m i : Nat), s.size - i = m → i ≤ s.size →
    LoopsTo (rdB brC Tryd.prog tab0 lp_sign LO_sign Tryd.f43 3 []) [aU c, aS s, aI i] (if (SL s i).contains (UInt8.ofNat c.toNat) = true then (.ret, [aB true]) else (.exit 0, [aX])) := by
  intro m
  induction m with
  | zero =>
    intro i hm hi
    obtain rfl : i = s.size := by omega
    have : SL s s.size = [] := List.drop_eq_nil_of_le (by rw [len_size]; simp)
    rw [this]
    refine .done _ _ ((r_sign_eq c s s.size).trans ?_)
    simp (disch := omega) only [dT, dF]
    rfl
  | succ m ih =>
    intro i hm hi
    rcases drop_cases s i hi with ⟨h1, _⟩ | ⟨h1, d, h2, h3⟩
    · omega
    · have htree := r_sign_eq c s i
      simp (disch := omega) only [dT, dF, wrapI, Int.toNat_natCast, h3, u8_of c hc hc2] at htree
      have hh : (SL s i).contains (UInt8.ofNat c.toNat) = ((d == UInt8.ofNat c.toNat) || (SL s ((i + 1 : Nat) : Int)).contains (UInt8.ofNat c.toNat)) := by
        rw [SL_nat, SL_nat, h2, List.contains_cons, Bool.beq_comm]
      cases hb : (d == UInt8.ofNat c.toNat) with
      | true =>
        rw [hh, hb]
        rw [hb] at htree
        exact .done _ _ htree
      | false =>
        rw [hh, hb]
        rw [hb] at htree
        refine .step _ _ _ htree ?_
        have := ih (i + 1) (by omega) (by omega)
        simpa using this
theorem ok_sign : EntryOk Tryd.prog 43 E_sign := entry_of mix ok_tab0 (lp := lp_sign) (LO := LO_sign) ⟨Tryd.func43, by kernel_rfl, by kernel_rfl⟩ (by kernel_rfl) fun ivs res bxs h => by
  unfold E_sign at h
  split at h
  · rename_i c
    obtain ⟨hc, he⟩ := pick1 h
    cases he
    refine ⟨oneLoop 3 (by kernel_rfl) (by kernel_rfl) (by kernel_rfl) ?_, (q_sign_eq c).trans ?_⟩
    · intro ls e ls' hl
      unfold LO_sign at hl
      split at hl
      · rename_i c s i
        rcases pick2 hl with ⟨hc, he⟩ | ⟨hc1, hc, he⟩
        · cases he
          simp only [Bool.and_eq_true, decide_eq_true_eq] at hc
          obtain ⟨⟨⟨h1, h2⟩, h3⟩, h4⟩ := hc
          obtain ⟨k, rfl, hk, hs⟩ := okS_inv h3
          have := sign_loop c s h1 h2 hs _ k rfl hk
          rw [h4] at this
          exact this
        · cases he
          rw [hc, Bool.true_and] at hc1
          simp only [Bool.and_eq_true, decide_eq_true_eq] at hc
          obtain ⟨⟨h1, h2⟩, h3⟩ := hc
          obtain ⟨k, rfl, hk, hs⟩ := okS_inv h3
          have := sign_loop c s h1 h2 hs _ k rfl hk
          rw [hc1] at this
          exact this
      · cases hl
    · rw [hc, Bool.true_and]
      have : okS { data := #[40, 41, 44, 58, 43, 45, 42, 47, 92, 35, 95, 61, 60, 62, 91, 93, 38, 33, 39, 63, 64, 94, 36, 46] } 0 = true := by kernel_rfl
      rw [this, Bool.true_and]
      show _ = some (cB (oneS.contains (UInt8.ofNat c.toNat)), [])
      unfold oneS
      cases List.contains [40, 41, 44, 58, 43, 45, 42, 47, 92, 35, 95, 61, 60, 62, 91, 93, 38, 33, 39, 63, 64, 94, 36, 46] (UInt8.ofNat c.toNat) <;> rfl
  · cases h

theorem bytesOf_byteP (c : UInt8) (l : List PV) : bytesOf (byteP c :: l) = (bytesOf l).map (c :: ·) := by
  show (bytesOf l).bind _ = _
  cases bytesOf l with
  | none => rfl
  | some r =>
    show some (UInt8.ofNat ((c.toNat : Int)).toNat :: r) = _
    rw [Int.toNat_natCast, UInt8.ofNat_toNat]
    rfl
theorem bytesOf_append : ∀ {l : List PV} {a : List UInt8} {l' : List PV} {b : List UInt8}, bytesOf l = some a → bytesOf l' = some b → bytesOf (l ++ l') = some (a ++ b)
  | [], a, l', b, h, h' => by cases h; exact h'
  | p :: l, a, l', b, h, h' => by
    cases p with
    | int k n =>
      cases k <;> first
        | (cases h; done)
        | (have h2 : (bytesOf l).bind (fun r => some (UInt8.ofNat n.toNat :: r)) = some a := h
           rw [Option.bind_eq_some_iff] at h2
           obtain ⟨r, hr, h2⟩ := h2
           cases h2
           show (bytesOf (l ++ l')).bind _ = _
           rw [bytesOf_append hr h']
           rfl)
    | _ => cases h
theorem q_other {c : UInt8} (h : c ≠ 34) (l : List UInt8) : qR (c :: l) = (qR l).map (fun x => (c :: x.1, x.2 + 1)) := by
  cases l with
  | nil => simp [qR, h]
  | cons d l => rw [qR, if_neg h]
theorem q_two2 (l : List UInt8) : qR (34 :: 34 :: l) = (qR l).map (fun x => (34 :: x.1, x.2 + 2)) := by rw [qR, if_pos rfl, if_pos rfl]
theorem q_end {l : List UInt8} (h : l.headD 0 ≠ 34) : qR (34 :: l) = some ([], 1) := by
  cases l with
  | nil => rfl
  | cons d l => have h' : ¬ d = 34 := h; rw [qR, if_pos rfl, if_neg h']

/-- How the loop ends. -/
def qOut (acc : List UInt8) (l : List UInt8) (i : Nat) : Ex × LS := match qR l with
  | some x => (.ret, [aS (bs (acc ++ x.1)), aI ((i : Int) + x.2), aB true])
  | none => (.exit 0, [aX, aX, aX])
theorem quoted_loop (s : ByteArray) (hs : s.size ≤ 1048576) : ∀ (m i n : Nat) (l : List PV) (acc : List UInt8), s.size - i ≤ m → n ≤ 2 * i → i ≤ s.size + 1 → bytesOf l = some acc → l.length = n →
    LoopsTo (rdB brC Tryd.prog tab0 lp_quoted LO_quoted Tryd.f38 3 []) [aS s, aL 7 1 5 n l, aI i] (qOut acc (SL s i) i) := by
  intro m
  induction m with
  | zero =>
    intro i n l acc hm hn hi hb hl
    have : SL s i = [] := List.drop_eq_nil_of_le (by rw [len_size]; omega)
    rw [this]
    refine .done _ _ ((r_quoted_eq s i n l).trans ?_)
    simp (disch := omega) only [dT, dF]
    rfl
  | succ m ih =>
    intro i n l acc hm hn hi hb hl
    by_cases hlt : i < s.size
    · rcases drop_cases s i (by omega) with ⟨h1, _⟩ | ⟨h1, d, h2, h3⟩
      · omega
      · have htree := r_quoted_eq s i n l
        have e34 : ((d.toNat : Int) != 34) = !(d == 34) := congrArg (!·) (u8_lit d 34 (by omega))
        have hbl : Nat.beq (l.length) n = true := by rw [hl]; exact Nat.beq_refl n
        simp (disch := omega) only [dT, dF, wrapI, Int.toNat_natCast, h3, e34, show (i : Int) + 1 = ((i + 1 : Nat) : Int) by omega, hb, hbl] at htree
        rw [SL_nat, h2]
        cases hd : (d == 34) with
        | false =>
          rw [hd] at htree
          refine .step _ _ _ htree ?_
          have := ih (i + 1) (n + 1) (l ++ [byteP d]) (acc ++ [d]) (by omega) (by omega) (by omega) (bytesOf_append hb (by rw [bytesOf_byteP]; rfl)) (by simp [hl])
          have e : qOut (acc ++ [d]) (SL s ((i + 1 : Nat) : Int)) (i + 1) = qOut acc (d :: s.data.toList.drop (i + 1)) i := by
            unfold qOut
            rw [q_other (by simpa using hd), SL_nat]
            cases qR (s.data.toList.drop (i + 1)) with
            | none => rfl
            | some x =>
              simp only [Option.map_some, List.append_assoc, List.cons_append, List.nil_append]
              rw [show ((i + 1 : Nat) : Int) + (x.2 : Int) = (i : Int) + ((x.2 + 1 : Nat) : Int) by omega]
          rw [e] at this
          exact this
        | true =>
          obtain rfl : d = 34 := by simpa using hd
          rw [hd] at htree
          by_cases hlt2 : i + 1 < s.size
          · rcases drop_cases s (i + 1) (by omega) with ⟨g1, _⟩ | ⟨g1, d2, g2, g3⟩
            · omega
            · have e34' : ((d2.toNat : Int) == 34) = (d2 == 34) := u8_lit d2 34 (by omega)
              simp (disch := omega) only [dT, dF, wrapI, Int.toNat_natCast, g3, e34', show (((i + 1 : Nat) : Int)) + 1 = ((i + 2 : Nat) : Int) by omega] at htree
              rw [g2]
              cases hd2 : (d2 == 34) with
              | true =>
                obtain rfl : d2 = 34 := by simpa using hd2
                rw [hd2] at htree
                refine .step _ _ _ htree ?_
                have := ih (i + 2) (n + 1) (l ++ [PV.int IntKind.u8 34]) (acc ++ [34]) (by omega) (by omega) (by omega) (bytesOf_append hb (b := [34]) rfl) (by simp [hl])
                have e : qOut (acc ++ [34]) (SL s ((i + 2 : Nat) : Int)) (i + 2) = qOut acc (34 :: 34 :: s.data.toList.drop (i + 1 + 1)) i := by
                  unfold qOut
                  rw [q_two2, SL_nat]
                  cases qR (s.data.toList.drop (i + 1 + 1)) with
                  | none => rfl
                  | some x =>
                    simp only [Option.map_some, List.append_assoc, List.cons_append, List.nil_append]
                    rw [show ((i + 2 : Nat) : Int) + (x.2 : Int) = (i : Int) + ((x.2 + 2 : Nat) : Int) by omega]
                rw [e] at this
                exact this
              | false =>
                rw [hd2] at htree
                have hne : (d2 :: s.data.toList.drop (i + 1 + 1)).headD 0 ≠ 34 := by simpa using hd2
                refine .done _ _ (htree.trans ?_)
                unfold qOut
                rw [q_end hne]
                simp only [List.append_nil]
                rfl
          · have hnil : s.data.toList.drop (i + 1) = [] := List.drop_eq_nil_of_le (by rw [len_size]; omega)
            simp (disch := omega) only [dT, dF] at htree
            refine .done _ _ (htree.trans ?_)
            rw [hnil]
            unfold qOut
            rw [q_end (by simp)]
            simp only [List.append_nil]
            rfl
    · have : SL s i = [] := List.drop_eq_nil_of_le (by rw [len_size]; omega)
      rw [this]
      refine .done _ _ ((r_quoted_eq s i n l).trans ?_)
      simp (disch := omega) only [dT, dF]
      rfl
theorem ok_quoted : EntryOk Tryd.prog 38 E_quoted := entry_of mix ok_tab0 (lp := lp_quoted) (LO := LO_quoted) ⟨Tryd.func38, by kernel_rfl, by kernel_rfl⟩ (by kernel_rfl) fun ivs res bxs h => by
  unfold E_quoted at h
  split at h
  · rename_i s i
    obtain ⟨hc, he⟩ := pick1 h
    cases he
    refine ⟨oneLoop 3 (by kernel_rfl) (by kernel_rfl) (by kernel_rfl) ?_, (q_quoted_eq s i).trans ?_⟩
    · intro ls e ls' hl
      unfold LO_quoted at hl
      split at hl
      · rename_i s x e1 n l i
        have key : ∀ (i : Int), 0 ≤ i → i ≤ s.size + 1 → s.size ≤ 1048576 → n ≤ 2 * i.toNat → Nat.beq l.length n = true → ∀ {acc}, bytesOf l = some acc →
            LoopsTo (rdB brC Tryd.prog tab0 lp_quoted LO_quoted Tryd.f38 3 []) [aS s, aL 7 1 5 n l, aI i] (qOut acc (SL s i) i.toNat) := by
          intro i h1 h2 h3 h4 h5 acc h6
          obtain ⟨i, rfl⟩ := Int.eq_ofNat_of_zero_le h1
          exact quoted_loop s h3 _ i n l acc (Nat.le_refl _) (by omega) (by omega) h6 (Nat.eq_of_beq_eq_true h5)
        rcases pick2 hl with ⟨hc, he⟩ | ⟨hc1, hc, he⟩
        · cases he
          simp only [Bool.and_eq_true, decide_eq_true_eq] at hc
          obtain ⟨⟨⟨⟨⟨⟨⟨h1, h2⟩, h3⟩, h4⟩, h5⟩, h6⟩, h7⟩, h8⟩ := hc
          obtain ⟨acc, hacc⟩ := Option.isSome_iff_exists.1 h5
          obtain ⟨y, hy⟩ := Option.isSome_iff_exists.1 h8
          have hsz : i ≤ s.size + 1 := by
            by_cases h : (s.size : Int) < i
            · have : SL s i = [] := List.drop_eq_nil_of_le (by rw [len_size]; omega)
              rw [this] at hy
              cases hy
            · omega
          have := key i h1 hsz h2 h3 h4 hacc
          rw [Nat.eq_of_beq_eq_true h6, Nat.eq_of_beq_eq_true h7]
          unfold qOut at this
          rw [hy] at this
          unfold qT qN
          rw [hy, hacc]
          dsimp only at this ⊢
          rw [show (i + ((y.2 + 1 : Nat) : Int) - 1) = ((i.toNat : Nat) : Int) + (y.2 : Int) by omega]
          exact this
        · cases he
          have hc' := hc
          simp only [Bool.and_eq_true, decide_eq_true_eq] at hc
          obtain ⟨⟨⟨⟨⟨⟨⟨h1, h0⟩, h2⟩, h3⟩, h4⟩, h5⟩, h6⟩, h7⟩ := hc
          obtain ⟨acc, hacc⟩ := Option.isSome_iff_exists.1 h5
          have hno : qR (SL s i) = none := by
            cases hq : qR (SL s i) with
            | none => rfl
            | some y =>
              rw [hq, dT h1, dT h2, dT h3, h4, h5, h6, h7] at hc1
              cases hc1
          have := key i h1 h0 h2 h3 h4 hacc
          rw [Nat.eq_of_beq_eq_true h6, Nat.eq_of_beq_eq_true h7]
          unfold qOut at this
          rw [hno] at this
          exact this
      · cases hl
    · obtain ⟨k, rfl, hk, hs⟩ := okS_inv hc
      have hd : (SL s k).drop 1 = SL s ((k : Int) + 1) := by
        rw [SL_nat, List.drop_drop]
        rfl
      rw [hd]
      have w : IntKind.wrap .i64 ((k : Int) + 1) = (k : Int) + 1 := wrapI (by omega) (by omega)
      simp (disch := omega) only [dT, dF, w]
      have hbo : Option.isSome (bytesOf []) = true := rfl
      unfold qE
      cases hq : qR (SL s ((k : Int) + 1)) with
      | none =>
        simp only [hbo, Nat.beq_refl, Bool.true_and, Option.isSome_none, if_neg Bool.false_ne_true]
        unfold qT
        rw [hq]
        rfl
      | some y =>
        simp only [hbo, Nat.beq_refl, Bool.true_and, Option.isSome_some, List.nil_append, if_pos]
        rw [show (k : Int) + 1 + (qN (SL s ((k : Int) + 1)) : Int) - 1 = (k : Int) + (qN (SL s ((k : Int) + 1)) : Int) by omega]
        rfl
  · cases h
theorem ok_tab1 : EntriesOk Tryd.prog tab1 := ⟨ok_run, ok_digits, ok_two, ok_sign, ok_quoted, ok_tab0⟩
end Go.Proofs.YtjbjgeekglpmlaaDoor
