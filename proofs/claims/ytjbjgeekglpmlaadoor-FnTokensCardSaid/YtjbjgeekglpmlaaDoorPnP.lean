/- Places read whole, by the reckoner: proofs. -/
import Derived.Test.YtjbjgeekglpmlaaDoorPnT
import Derived.Test.YtjbjgeekglpmlaaDoorTokAt
import Derived.Test.YtjbjgeekglpmlaaDoorCutS
namespace Go.Proofs.YtjbjgeekglpmlaaDoor
open Go.RowKit
set_option linter.unusedVariables false
set_option linter.unusedSimpArgs false

/-! The reference's side. -/
theorem ok_tab7 : EntriesOk Tryd.prog tab7 := ⟨ok_place, ok_tab6⟩
theorem read_loop (t : ByteArray) (ht : t.size ≤ 1048576) : ∀ (m i : Nat), t.size - i = m → i ≤ t.size →
    LoopsTo (rdB brC Tryd.prog tab7 lp_read LO_read Tryd.f13 6 []) [aS t, aI i] (if hasC t i = true then (.ret, [aS (t.extract 0 (toC t i).toNat), aS (t.extract (toC t i + 1).toNat t.size), aI 0, aS t]) else (.exit 0, [aX, aX, aX, aS t])) := by
  intro m
  induction m with
  | zero =>
    intro i hm hi
    obtain rfl : i = t.size := by omega
    have : hasC t t.size = false := by
      unfold hasC
      rw [show SL t t.size = [] from List.drop_eq_nil_of_le (by rw [len_size]; simp)]
      rfl
    rw [this]
    refine .done _ _ ((r_read_eq t t.size).trans ?_)
    simp (disch := omega) only [dT, dF]
    rfl
  | succ m ih =>
    intro i hm hi
    rcases drop_cases t i hi with ⟨h1, _⟩ | ⟨h1, c, h2, h3⟩
    · omega
    · have e94 : ((c.toNat : Int) == 94) = (c == 94) := u8_lit c 94 (by omega)
      have tree := r_read_eq t i
      simp (disch := omega) only [dT, dF, wrapI, Int.toNat_natCast, h3, e94, Bool.and_true, show (i : Int) + 1 = ((i + 1 : Nat) : Int) by omega] at tree
      cases hc : (c == 94) with
      | true =>
        rw [hc] at tree
        have h4 : hasC t i = true := by unfold hasC; rw [SL_nat, h2, List.any_cons, hc]; rfl
        have h5 : toC t i = i := by unfold toC; rw [SL_nat, h2, List.takeWhile_cons, hc]; simp
        rw [h4, h5, show ((i : Int) + 1).toNat = i + 1 by omega, Int.toNat_natCast]
        exact .done _ _ tree
      | false =>
        rw [hc] at tree
        refine .step _ _ _ tree ?_
        have h4 : hasC t i = hasC t ((i + 1 : Nat) : Int) := by unfold hasC; rw [SL_nat, SL_nat, h2, List.any_cons, hc]; rfl
        have h5 : toC t i = toC t ((i + 1 : Nat) : Int) := by unfold toC; rw [SL_nat, SL_nat, h2, List.takeWhile_cons, hc]; simp; omega
        rw [h4, h5]
        exact ih (i + 1) (by omega) (by omega)
theorem tw_dropP {α : Type} (p : α → Bool) (l : List α) : l.drop (l.takeWhile p).length = l.dropWhile p := by
  induction l with
  | nil => rfl
  | cons x l ih =>
    rw [List.takeWhile_cons, List.dropWhile_cons]
    cases p x with
    | true => simpa using ih
    | false => rfl
theorem tw_takeP {α : Type} (p : α → Bool) (l : List α) : l.take (l.takeWhile p).length = l.takeWhile p := by
  induction l with
  | nil => rfl
  | cons x l ih =>
    rw [List.takeWhile_cons]
    cases p x with
    | true => simpa using ih
    | false => rfl
theorem tw_allP {α : Type} (p : α → Bool) (l : List α) (h : l.any (fun x => !p x) = false) : l.takeWhile p = l ∧ l.dropWhile p = [] := by
  induction l with
  | nil => exact ⟨rfl, rfl⟩
  | cons x l ih =>
    rw [List.any_cons, Bool.or_eq_false_iff] at h
    have hp : p x = true := by simpa using h.1
    rw [List.takeWhile_cons, List.dropWhile_cons, hp]
    exact ⟨by rw [if_pos rfl, (ih h.2).1], by rw [if_pos rfl]; exact (ih h.2).2⟩
theorem not_any {l : List UInt8} : l.any (fun c => c == 94) = l.any (fun x => !(fun c => !(c == 94)) x) := by
  congr 1; funext x; simp
theorem cut_some {t : ByteArray} (h : hasC t 0 = true) : t.extract 0 (toC t 0).toNat = befC t ∧ t.extract (toC t 0 + 1).toNat t.size = aftC t := by
  have e : toC t 0 = ((t.data.toList.takeWhile (fun c => !(c == 94))).length : Int) := by
    unfold toC
    rw [show SL t 0 = t.data.toList from rfl]
    omega
  rw [e]
  constructor
  · rw [Int.toNat_natCast, extract_bs, List.drop_zero, Nat.sub_zero, tw_takeP]; rfl
  · rw [show (((t.data.toList.takeWhile (fun c => !(c == 94))).length : Int) + 1).toNat = (t.data.toList.takeWhile (fun c => !(c == 94))).length + 1 by omega, extract_bs]
    unfold aftC
    rw [← tw_dropP, List.drop_drop, List.take_of_length_le]
    rw [List.length_drop, len_size]
    exact Nat.le_refl _
theorem cut_none {t : ByteArray} (h : hasC t 0 = false) : befC t = t ∧ aftC t = nostr := by
  have h' : t.data.toList.any (fun x => !(fun c => !(c == 94)) x) = false := by rw [← not_any]; exact h
  obtain ⟨h1, h2⟩ := tw_allP _ _ h'
  exact ⟨by unfold befC; rw [h1, bs_self], by unfold aftC; rw [h2]; rfl⟩
theorem split_leaf (t : ByteArray) (ht : t.size ≤ 1048576) : (brC (okS t 0 && hasC t 0) (some (.tup [cS (t.extract 0 (toC t 0).toNat), cS (t.extract (toC t 0 + 1).toNat t.size), cI 0], [])) (brC (okS t 0) (some (.tup [cS t, cS nostr, cI 0], [])) none) : Option (IV × List (List CV))) = some (.tup [cS (befC t), cS (aftC t), cI 0], []) := by
  have ho : okS t 0 = true := okS_mk (k := 0) (Nat.zero_le _) ht
  rw [ho]
  cases hh : hasC t 0 with
  | true => rw [(cut_some hh).1, (cut_some hh).2]; rfl
  | false => rw [(cut_none hh).1, (cut_none hh).2]; rfl
theorem rd_none {s : ByteArray} (h : plc s = none) : (some (.tup [cS nostr, cS nostr, cI 6], []) : Option (IV × List (List CV))) = some (.tup [cS (rdA s), cS (rdB' s), cI (rdC s)], []) := by
  unfold rdA rdB' rdC; rw [h]
theorem rd_some {s t : ByteArray} (h : plc s = some t) : (some (.tup [cS (befC t), cS (aftC t), cI 0], []) : Option (IV × List (List CV))) = some (.tup [cS (rdA s), cS (rdB' s), cI (rdC s)], []) := by
  unfold rdA rdB' rdC; rw [h]
theorem read_any (s : ByteArray) (hs : s.size ≤ 1000) : q_read brC s = some (.tup [cS (rdA s), cS (rdB' s), cI (rdC s)], []) := by
  refine (q_read_eq s).trans ?_
  have hO : okS s 0 = true := okS_mk (k := 0) (Nat.zero_le _) (by omega)
  have t0 := tx_le hO
  unfold goodL
  cases hA : lexO (SL s 0) with
  | false =>
    simp only [hO, hA, brC, Bool.and_true, Bool.and_false, Bool.true_and, Bool.false_and, cond_true, cond_false]
    exact rd_none (by unfold plc; simp [hA])
  | true =>
    have hO1 : okS s (i1 s 0) = true := lexE_ok hO hA
    have t1 := tx_le hO1
    cases hS : isS (SL s 0) caret with
    | true =>
      cases hA1 : lexO (SL s (i1 s 0)) with
      | false =>
        simp only [hO, hA, hS, hO1, hA1, brC, Bool.and_true, Bool.and_false, Bool.true_and, Bool.false_and, cond_true, cond_false]
        exact rd_none (by unfold plc; simp [hA, hS, hA1])
      | true =>
        cases hN1 : nmS (SL s (i1 s 0)) with
        | false =>
          simp only [hO, hA, hS, hO1, hA1, hN1, brC, Bool.and_true, Bool.and_false, Bool.true_and, Bool.false_and, cond_true, cond_false]
          exact rd_none (by unfold plc; simp [hA, hS, hA1, hN1])
        | true =>
          have hz : (nostr ++ (caret ++ tx (SL s (i1 s 0)))).size ≤ 1048576 := by
            rw [ByteArray.size_append, ByteArray.size_append]
            show 0 + (1 + _) ≤ _
            omega
          have hl := split_leaf _ hz
          have hne : (nostr ++ (caret ++ tx (SL s (i1 s 0)))) = caret ++ tx (SL s (i1 s 0)) := ByteArray.empty_append
          cases hE : (i1 s (i1 s 0) != (s.size : Int)) with
          | true =>
            simp only [hO, hA, hS, hO1, hA1, hN1, Bool.and_true, Bool.and_false, Bool.true_and, Bool.false_and]
            exact rd_none (by have : ¬ (i1 s (i1 s 0) = s.size) := by simpa using hE
                              unfold plc; simp [hA, hS, hA1, hN1, this])
          | false =>
            simp only [hO, hA, hS, hO1, hA1, hN1, Bool.and_true, Bool.and_false, Bool.true_and, Bool.false_and]
            refine Eq.trans hl (rd_some ?_)
            have : i1 s (i1 s 0) = s.size := by simpa using hE
            unfold plc
            rw [if_pos ⟨hS, hA⟩, if_pos ⟨hA1, hN1, this⟩, hne]
    | false =>
      cases hN : nmS (SL s 0) with
      | false =>
        simp only [hO, hA, hS, hN, brC, Bool.and_true, Bool.and_false, Bool.true_and, Bool.false_and, cond_true, cond_false]
        exact rd_none (by unfold plc; simp [hA, hS, hN])
      | true =>
        cases hA1 : lexO (SL s (i1 s 0)) with
        | false =>
          simp only [hO, hA, hS, hN, hO1, hA1, brC, Bool.and_true, Bool.and_false, Bool.true_and, Bool.false_and, cond_true, cond_false]
          exact rd_none (by unfold plc; simp [hA, hS, hN, hA1])
        | true =>
          have hO2 : okS s (i1 s (i1 s 0)) = true := lexE_ok hO1 hA1
          have t2 := tx_le hO2
          cases hS1 : isS (SL s (i1 s 0)) caret with
          | false =>
            have hl := split_leaf (tx (SL s 0)) (by omega)
            cases hE : (i1 s 0 != (s.size : Int)) with
            | true =>
              simp only [hO, hA, hS, hN, hO1, hA1, hS1, Bool.and_true, Bool.and_false, Bool.true_and, Bool.false_and]
              exact rd_none (by have : ¬ (i1 s 0 = s.size) := by simpa using hE
                                unfold plc; simp [hA, hS, hN, hA1, hS1, this])
            | false =>
              simp only [hO, hA, hS, hN, hO1, hA1, hS1, Bool.and_true, Bool.and_false, Bool.true_and, Bool.false_and]
              refine Eq.trans hl (rd_some ?_)
              have : i1 s 0 = s.size := by simpa using hE
              unfold plc
              rw [if_neg (by rw [hS]; simp), if_pos ⟨hA, hN, hA1⟩, if_neg (by rw [hS1]; simp), if_pos this]
          | true =>
            cases hA2 : lexO (SL s (i1 s (i1 s 0))) with
            | false =>
              simp only [hO, hA, hS, hN, hO1, hA1, hO2, hS1, hA2, brC, Bool.and_true, Bool.and_false, Bool.true_and, Bool.false_and, cond_true, cond_false]
              exact rd_none (by unfold plc; simp [hA, hS, hN, hA1, hS1, hA2])
            | true =>
              cases hN2 : nmS (SL s (i1 s (i1 s 0))) with
              | false =>
                simp only [hO, hA, hS, hN, hO1, hA1, hO2, hS1, hA2, hN2, brC, Bool.and_true, Bool.and_false, Bool.true_and, Bool.false_and, cond_true, cond_false]
                exact rd_none (by unfold plc; simp [hA, hS, hN, hA1, hS1, hA2, hN2])
              | true =>
                have hz : (tx (SL s 0) ++ (caret ++ tx (SL s (i1 s (i1 s 0))))).size ≤ 1048576 := by
                  rw [ByteArray.size_append, ByteArray.size_append]
                  show _ + (1 + _) ≤ _
                  omega
                have hl := split_leaf _ hz
                cases hE : (i1 s (i1 s (i1 s 0)) != (s.size : Int)) with
                | true =>
                  simp only [hO, hA, hS, hN, hO1, hA1, hO2, hS1, hA2, hN2, Bool.and_true, Bool.and_false, Bool.true_and, Bool.false_and]
                  exact rd_none (by have : ¬ (i1 s (i1 s (i1 s 0)) = s.size) := by simpa using hE
                                    unfold plc; simp [hA, hS, hN, hA1, hS1, hA2, hN2, this])
                | false =>
                  simp only [hO, hA, hS, hN, hO1, hA1, hO2, hS1, hA2, hN2, Bool.and_true, Bool.and_false, Bool.true_and, Bool.false_and]
                  refine Eq.trans hl (rd_some ?_)
                  have : i1 s (i1 s (i1 s 0)) = s.size := by simpa using hE
                  unfold plc; simp [hA, hS, hN, hA1, hS1, hA2, hN2, this]
theorem ok_read : EntryOk Tryd.prog 13 E_read := entry_of mix ok_tab7 (lp := lp_read) (LO := LO_read) ⟨Tryd.func13, by kernel_rfl, by kernel_rfl⟩ (by kernel_rfl) fun ivs res bxs h => by
  unfold E_read at h
  split at h
  · rename_i s
    obtain ⟨hc, he⟩ := pick1 h
    cases he
    refine ⟨oneLoop 6 (by kernel_rfl) (by kernel_rfl) (by kernel_rfl) ?_, read_any s (of_decide_eq_true hc)⟩
    intro ls e ls' hl
    unfold LO_read at hl
    split at hl
    · rename_i t i
      rcases pick2 hl with ⟨hc, he⟩ | ⟨hc1, hc, he⟩
      · cases he
        rw [Bool.and_eq_true] at hc
        obtain ⟨k, rfl, hk, hs⟩ := okS_inv hc.1
        have := read_loop t hs _ k rfl hk
        rw [hc.2] at this
        exact this
      · cases he
        rw [hc, Bool.true_and] at hc1
        obtain ⟨k, rfl, hk, hs⟩ := okS_inv hc
        have := read_loop t hs _ k rfl hk
        rw [hc1] at this
        exact this
    · cases hl
  · cases h
theorem ok_parse : EntryOk Tryd.prog 5 E_parse := entry_of mix (tab := tab8) ⟨ok_read, ok_tab7⟩ (lp := []) (LO := LO0) ⟨Tryd.func5, by kernel_rfl, by kernel_rfl⟩ (by kernel_rfl) fun ivs res bxs h => by
  unfold E_parse at h
  split at h
  · rename_i s
    refine ⟨noLoop (by kernel_rfl), (q_parseS_eq s).trans ?_⟩
    cases hb : decide ((s.size : Int) > 120) with
    | true =>
      rw [hb] at h
      rcases pick2 h with ⟨hc, he⟩ | ⟨hc1, hc, he⟩
      · cases he; rfl
      · rw [Bool.true_and, hc] at hc1; cases hc1
    | false =>
      rw [hb] at h
      rcases pick2 h with ⟨hc, he⟩ | ⟨hc1, hc, he⟩
      · cases hc
      · cases he
        have : ¬ (s.size : Int) > 120 := of_decide_eq_false hb
        rw [decide_eq_true (show s.size ≤ 1000 by omega)]
        rfl
  · cases h
end Go.Proofs.YtjbjgeekglpmlaaDoor
