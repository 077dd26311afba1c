/- The walk of the law FnExactParsePlace, by the reckoner. -/
import Derived.Test.YtjbjgeekglpmlaaDoorPnQ
namespace Go.Proofs.YtjbjgeekglpmlaaDoor
open Go.RowKit
set_option linter.unusedVariables false
set_option linter.unusedSimpArgs false

theorem wI_size {s t : ByteArray} (hs : s.size ≤ 1000) (h : wI s = some t) : t.size ≤ 1048576 := by
  have hO : okS s 0 = true := okS_mk (k := 0) (Nat.zero_le _) (by omega)
  have t0 := tx_le hO
  have go : ∀ {i : Int}, okS s i = true → lexO (SL s i) = true → okS s (i1 s i) = true := fun h h' => lexE_ok h h'
  unfold wI at h
  split at h
  · rename_i h0
    rw [Bool.and_eq_true] at h0
    have t1 := tx_le (go hO h0.1)
    split at h
    · cases h
      rw [ByteArray.size_append, ByteArray.size_append]
      show 0 + (1 + _) ≤ _
      omega
    · cases h
  · split at h
    · rename_i h0
      rw [Bool.and_eq_true] at h0
      have hO1 := go hO h0.1
      split at h
      · rename_i h1
        rw [Bool.and_eq_true] at h1
        have t2 := tx_le (go hO1 h1.1)
        split at h
        · cases h
          rw [ByteArray.size_append, ByteArray.size_append]
          show _ + (1 + _) ≤ _
          omega
        · cases h
      · split at h
        · cases h
          rw [ByteArray.size_append]
          show _ + 0 ≤ _
          omega
        · cases h
    · cases h
theorem whole_any (s : ByteArray) (hs : s.size ≤ 1048576) : q_whole brC s = if 120 < s.size then some (.tup [cS nostr, cI 4], []) else match wI s with
    | some t => some (.tup [cS t, cI 0], [])
    | none => some (.tup [cS nostr, cI 6], []) := by
  refine (q_whole_eq s).trans ?_
  by_cases hb : 120 < s.size
  · rw [if_pos hb, decide_eq_true (show (s.size : Int) > 120 by omega)]; rfl
  · rw [if_neg hb, decide_eq_false (show ¬ (s.size : Int) > 120 by omega)]
    have hI : okI s 0 = true := okI_mk (okS_mk (k := 0) (Nat.zero_le _) hs) (by omega)
    unfold wI
    cases hS : (lexO (SL s 0) && isS (SL s 0) caret) with
    | true =>
      rw [if_pos rfl]
      cases hE : (i1 s (i1 s 0) != (s.size : Int)) with
      | true =>
        have hne : ¬ (i1 s (i1 s 0) = s.size) := by simpa using hE
        cases hA1 : lexO (SL s (i1 s 0)) <;> cases hN1 : nmS (SL s (i1 s 0)) <;> simp only [hI, hS, hA1, hN1, hE, brC, Bool.and_true, Bool.and_false, Bool.true_and, Bool.false_and, Bool.not_true, Bool.not_false, cond_true, cond_false] <;> (rw [if_neg (fun h => hne h.2)]; rfl)
      | false =>
        have heq : i1 s (i1 s 0) = s.size := by simpa using hE
        cases hA1 : lexO (SL s (i1 s 0)) with
        | false => cases hN1 : nmS (SL s (i1 s 0)) <;> simp only [hI, hS, hA1, hN1, hE, brC, Bool.and_true, Bool.and_false, Bool.true_and, Bool.false_and, Bool.not_true, Bool.not_false, cond_true, cond_false] <;> (rw [if_neg (fun h => Bool.false_ne_true h.1)]; rfl)
        | true => cases hN1 : nmS (SL s (i1 s 0)) with
          | false => simp only [hI, hS, hA1, hN1, hE, brC, Bool.and_true, Bool.and_false, Bool.true_and, Bool.false_and, Bool.not_true, Bool.not_false, cond_true, cond_false]; rw [if_neg (fun h => Bool.false_ne_true h.1)]; rfl
          | true => simp only [hI, hS, hA1, hN1, hE, brC, Bool.and_true, Bool.and_false, Bool.true_and, Bool.false_and, Bool.not_true, Bool.not_false, cond_true, cond_false]; rw [if_pos ⟨trivial, heq⟩]; rfl
    | false =>
      rw [if_neg (by simp)]
      cases hA : lexO (SL s 0) with
      | false => simp only [hI, hS, hA, brC, Bool.and_true, Bool.and_false, Bool.true_and, Bool.false_and, Bool.not_true, Bool.not_false, cond_true, cond_false]; rw [if_neg (by simp)]; rfl
      | true =>
        cases hN : nmS (SL s 0) with
        | false => simp only [hI, hS, hA, hN, brC, Bool.and_true, Bool.and_false, Bool.true_and, Bool.false_and, Bool.not_true, Bool.not_false, cond_true, cond_false]; rw [if_neg (by simp)]; rfl
        | true =>
          cases hS1 : (lexO (SL s (i1 s 0)) && isS (SL s (i1 s 0)) caret) with
          | true =>
            rw [if_pos (show (true && true) = true from rfl), if_pos rfl]
            cases hE : (i1 s (i1 s (i1 s 0)) != (s.size : Int)) with
            | true =>
              have hne : ¬ (i1 s (i1 s (i1 s 0)) = s.size) := by simpa using hE
              cases hA2 : lexO (SL s (i1 s (i1 s 0))) <;> cases hN2 : nmS (SL s (i1 s (i1 s 0))) <;> simp only [hI, hS, hA, hN, hS1, hA2, hN2, hE, brC, Bool.and_true, Bool.and_false, Bool.true_and, Bool.false_and, Bool.not_true, Bool.not_false, cond_true, cond_false] <;> (rw [if_neg (fun h => hne h.2)]; rfl)
            | false =>
              have heq : i1 s (i1 s (i1 s 0)) = s.size := by simpa using hE
              cases hA2 : lexO (SL s (i1 s (i1 s 0))) with
              | false => cases hN2 : nmS (SL s (i1 s (i1 s 0))) <;> simp only [hI, hS, hA, hN, hS1, hA2, hN2, hE, brC, Bool.and_true, Bool.and_false, Bool.true_and, Bool.false_and, Bool.not_true, Bool.not_false, cond_true, cond_false] <;> (rw [if_neg (fun h => Bool.false_ne_true h.1)]; rfl)
              | true => cases hN2 : nmS (SL s (i1 s (i1 s 0))) with
                | false => simp only [hI, hS, hA, hN, hS1, hA2, hN2, hE, brC, Bool.and_true, Bool.and_false, Bool.true_and, Bool.false_and, Bool.not_true, Bool.not_false, cond_true, cond_false]; rw [if_neg (fun h => Bool.false_ne_true h.1)]; rfl
                | true => simp only [hI, hS, hA, hN, hS1, hA2, hN2, hE, brC, Bool.and_true, Bool.and_false, Bool.true_and, Bool.false_and, Bool.not_true, Bool.not_false, cond_true, cond_false]; rw [if_pos ⟨trivial, heq⟩]; rfl
          | false =>
            rw [if_pos (show (true && true) = true from rfl), if_neg (by simp)]
            cases hE : (i1 s 0 != (s.size : Int)) <;>
              simp only [hI, hS, hA, hN, hS1, hE, brC, Bool.and_true, Bool.and_false, Bool.true_and, Bool.false_and, Bool.not_true, Bool.not_false, cond_true, cond_false] <;>
              first
                | (rw [if_pos (by simpa using hE)]; rfl)
                | (rw [if_neg (by simpa using hE)]; rfl)
theorem plc_wI {s : ByteArray} (hs : s.size ≤ 1000) : wI s = plc s := by
  have hO : okS s 0 = true := okS_mk (k := 0) (Nat.zero_le _) (by omega)
  unfold wI plc
  have hne : ∀ t : ByteArray, nostr ++ t = t := fun t => ByteArray.empty_append
  have hne2 : ∀ t : ByteArray, t ++ nostr = t := fun t => ByteArray.append_empty
  rw [hne, hne2]
  cases hA : lexO (SL s 0) with
  | false => simp [hA]
  | true =>
    have hO1 : okS s (i1 s 0) = true := lexE_ok hO hA
    cases hS : isS (SL s 0) caret with
    | true => simp [hA, hS, and_assoc]
    | false =>
      cases hN : nmS (SL s 0) with
      | false => simp [hA, hS, hN]
      | true =>
        cases hA1 : lexO (SL s (i1 s 0)) with
        | true => simp [hA, hS, hN, hA1, and_assoc]
        | false =>
          have : ¬ (i1 s 0 = s.size) := by
            intro e
            have := (lex_end hO1 (by omega)).2.1
            rw [hA1] at this
            cases this
          simp [hA, hS, hN, hA1, this]
theorem ok_whole : EntryOk Tryd.prog 14 E_whole := entry_of mix ok_jab4 (lp := []) (LO := LO0) ⟨Tryd.func14, by kernel_rfl, by kernel_rfl⟩ (by kernel_rfl) fun ivs res bxs h => by
  unfold E_whole at h
  split at h
  · rename_i s f
    have key : Nat.beq f 15 = true → s.size ≤ 1048576 → (if 120 < s.size then some (.tup [cS nostr, cI 4], []) else match wI s with
        | some t => some (.tup [cS t, cI 0], [])
        | none => some (.tup [cS nostr, cI 6], []) : Option (IV × List (List CV))) = some (res, bxs) → evB brC Tryd.prog jab4 [] LO0 Tryd.f14 [.cv (.pv (.str s)), .cv (.pv (.clo f []))] = some (res, bxs) := by
      intro h1 h2 h3
      rw [Nat.eq_of_beq_eq_true h1]
      exact (whole_any s h2).trans h3
    refine ⟨noLoop (by kernel_rfl), ?_⟩
    cases hf : Nat.beq f 15 with
    | false => rw [hf] at h; cases h
    | true =>
      rw [hf] at h
      cases hz : decide (s.size ≤ 1048576) with
      | false => rw [hz] at h; simp only [pickA, Bool.and_false, Bool.false_and, cond_false] at h; cases h
      | true =>
        rw [hz] at h
        refine key hf (of_decide_eq_true hz) ?_
        by_cases hb : 120 < s.size
        · rw [if_pos hb]
          rw [decide_eq_true (show (s.size : Int) > 120 by omega)] at h
          exact h
        · rw [if_neg hb]
          rw [decide_eq_false (show ¬ (s.size : Int) > 120 by omega)] at h
          cases hw : wI s with
          | none => rw [hw] at h; exact h
          | some t => rw [hw] at h; exact h
  · cases h

theorem g94 {g : ByteArray} (h : (g.data.toList == [94]) = true) : g = caret := by
  have : g.data.toList = [94] := by simpa using h
  rw [← bs_self g, this]
  rfl
theorem ok_index : EntryOk Tryd.prog 54 E_index := ⟨⟨_, Tryd.func54, by kernel_rfl, by kernel_rfl⟩, fun ivs res bxs h => by
  unfold E_index at h
  split at h
  · rename_i t g
    obtain ⟨hc, he⟩ := pick1 h
    cases he
    refine contract_flat (ps := [.str t, .str g]) (v := .int .i64 (Lib.indexByte t.data.toList 94)) rfl fun w com vals hv _ => ?_
    obtain ⟨v, vs, rfl, hv1, hn1⟩ := hv.of_cons
    obtain ⟨v2, vs2, rfl, hv2, hn2⟩ := hn1.of_cons
    rw [hn2.of_nil]
    obtain rfl : v = .string t := by cases hv1; rfl
    obtain rfl : v2 = .string g := by cases hv2; rfl
    rw [g94 hc]
    refine Calls.mono (Tryd.stringslite_Index_one t 94 w) ?_
    rintro e w' ⟨rfl, rfl⟩
    exact ⟨rfl, Below.refl _ _⟩
  · cases h⟩
theorem index_tw (l : List UInt8) : (l.any (fun c => c == 94) = true → Lib.indexByte l 94 = ((l.takeWhile (fun c => !(c == 94))).length : Int)) ∧ (l.any (fun c => c == 94) = false → Lib.indexByte l 94 = -1) := by
  induction l with
  | nil => exact ⟨(fun h => by simp at h), fun _ => rfl⟩
  | cons c l ih =>
    rw [List.any_cons]
    unfold Lib.indexByte
    rw [List.takeWhile_cons]
    cases hc : (c == 94) with
    | true => exact ⟨fun _ => by simp, fun h => by simp at h⟩
    | false =>
      rw [Bool.false_or]
      refine ⟨fun h => ?_, fun h => ?_⟩
      · have := ih.1 h
        rw [this]
        simp
      · rw [ih.2 h]; rfl
theorem cutL_any (t : ByteArray) (ht : t.size ≤ 1048576) : q_cutL brC t = some (.tup [cS (befC t), cS (aftC t), cB (hasC t 0)], []) := by
  refine (q_cutL_eq t).trans ?_
  have hi := index_tw t.data.toList
  have hh : hasC t 0 = t.data.toList.any (fun c => c == 94) := rfl
  cases hc : hasC t 0 with
  | false =>
    rw [hi.2 (by rw [← hh]; exact hc), (cut_none hc).1, (cut_none hc).2]
    rfl
  | true =>
    have hle := tw_len_le (fun c => !(c == 94)) t.data.toList
    rw [len_size] at hle
    have hlt : (t.data.toList.takeWhile (fun c => !(c == 94))).length < t.size := by
      rcases Nat.lt_or_ge (t.data.toList.takeWhile (fun c => !(c == 94))).length t.size with h | h
      · exact h
      · exfalso
        have h2 : t.data.toList.dropWhile (fun c => !(c == 94)) = [] := by
          rw [← tw_dropP]
          exact List.drop_eq_nil_of_le (by rw [len_size]; exact h)
        have h3 : t.data.toList.takeWhile (fun c => !(c == 94)) = t.data.toList := by
          have := List.takeWhile_append_dropWhile (p := fun c : UInt8 => !(c == 94)) (l := t.data.toList)
          rw [h2, List.append_nil] at this
          exact this
        have h4 := List.all_takeWhile (p := fun c : UInt8 => !(c == 94)) (l := t.data.toList)
        rw [h3] at h4
        rw [hh, List.any_eq_true] at hc
        obtain ⟨x, hx, hx2⟩ := hc
        have := List.all_eq_true.1 h4 x hx
        rw [hx2] at this
        cases this
    have e : toC t 0 = ((t.data.toList.takeWhile (fun c => !(c == 94))).length : Int) := by
      unfold toC
      rw [show SL t 0 = t.data.toList from rfl]
      omega
    obtain ⟨c1, c2⟩ := cut_some hc
    rw [e] at c1 c2
    rw [hi.1 (by rw [← hh]; exact hc)]
    generalize hn : (t.data.toList.takeWhile (fun c => !(c == 94))).length = n at *
    have w : IntKind.wrap .i64 ((n : Int) + ((1 : Nat) : Int)) = (n : Int) + 1 := wrapI (by omega) (by omega)
    rw [← c1, ← c2]
    have w2 : IntKind.wrap .i64 ((n : Int) + 1) = (n : Int) + 1 := wrapI (by omega) (by omega)
    simp (disch := omega) only [dT, w, w2, Int.toNat_natCast, Bool.and_true]
    rfl
theorem ok_cutL : EntryOk Tryd.prog 28 E_cut := entry_of mix (tab := cab0) ⟨ok_index, trivial⟩ (lp := []) (LO := LO0) ⟨Tryd.func28, by kernel_rfl, by kernel_rfl⟩ (by kernel_rfl) fun ivs res bxs h => by
  unfold E_cut at h
  split at h
  · rename_i t g
    obtain ⟨hc, he⟩ := pick1 h
    cases he
    rw [Bool.and_eq_true] at hc
    rw [g94 hc.2]
    exact ⟨noLoop (by kernel_rfl), cutL_any t (of_decide_eq_true hc.1)⟩
  · cases h
theorem ok_cut : EntryOk Tryd.prog 16 E_cut := entry_of mix (tab := cab1) ⟨ok_cutL, ok_index, trivial⟩ (lp := []) (LO := LO0) ⟨Tryd.func16, by kernel_rfl, by kernel_rfl⟩ (by kernel_rfl) fun ivs res bxs h => by
  unfold E_cut at h
  split at h
  · rename_i t g
    obtain ⟨hc, he⟩ := pick1 h
    cases he
    rw [Bool.and_eq_true] at hc
    rw [g94 hc.2]
    refine ⟨noLoop (by kernel_rfl), (q_cut_eq t).trans ?_⟩
    rw [hc.1]
    rfl
  · cases h
theorem ok_jab5 : EntriesOk Tryd.prog jab5 := ⟨ok_whole, ok_cut, ok_jab4⟩
theorem ok_parseI : EntryOk Tryd.prog 6 E_parseI := entry_of mix ok_jab5 (lp := []) (LO := LO0) ⟨Tryd.func6, by kernel_rfl, by kernel_rfl⟩ (by kernel_rfl) fun ivs res bxs h => by
  unfold E_parseI at h
  split at h
  · rename_i s
    refine ⟨noLoop (by kernel_rfl), (q_parseI_eq s).trans ?_⟩
    rw [Nat.beq_refl, Bool.true_and]
    cases hz : decide (s.size ≤ 1048576) with
    | false => rw [hz] at h; simp only [pickA, Bool.and_false, cond_false] at h; cases h
    | true =>
      rw [hz] at h
      cases hb : decide ((s.size : Int) > 120) with
      | true => rw [hb] at h; exact h
      | false =>
        rw [hb] at h
        have hs : s.size ≤ 1000 := by have : ¬ (s.size : Int) > 120 := of_decide_eq_false hb
                                      omega
        have hpw := plc_wI hs
        cases hw : wI s with
        | none =>
          rw [hw] at hpw
          have := rd_none hpw.symm
          refine Eq.trans ?_ (this.trans h)
          rfl
        | some t =>
          rw [hw] at hpw
          have := rd_some hpw.symm
          refine Eq.trans ?_ (this.trans h)
          have hz2 : decide (t.size ≤ 1048576) = true := decide_eq_true (wI_size hs hw)
          show brC (decide (t.size ≤ 1048576) && _) _ _ = _
          rw [hz2]
          rfl
  · cases h
theorem law_any (s : ByteArray) : q_law brC s = some (cB true, []) := by
  refine (q_law_eq s).trans ?_
  by_cases h : s.size ≤ 1048576
  · rw [decide_eq_false (show ¬ (s.size : Int) > 1048576 by omega), decide_eq_true h]
    cases hb : decide ((s.size : Int) > 120) with
    | true => rfl
    | false =>
      have e1 : (ByteArray.toList (rdA s) == ByteArray.toList (rdA s)) = true := by simp
      have e2 : (ByteArray.toList (rdB' s) == ByteArray.toList (rdB' s)) = true := by simp
      have e3 : (rdC s != rdC s) = false := by simp
      rw [e1, e2, e3]
      rfl
  · rw [decide_eq_true (show (s.size : Int) > 1048576 by omega)]
    rfl
theorem FnExactParsePlace_walk (s : ByteArray) (w : World) (hs : s.size ≤ 9223372036854775807) :
    Calls Tryd.prog 3 #[.string s] w fun e w' => e = .returned (.bool true) ∧ Below w.heap.size w w' := by
  have hc : Contract Tryd.prog 3 ([.str s].map fun p => .cv (.pv p)) (.cv (.pv (.bool true))) [] :=
    fun_okB mix (tabL_ok (l := lab0) ⟨ok_parse, ok_parseI, trivial⟩) (O := OL []) (LO := LO0) ⟨Tryd.func3, by kernel_rfl, by kernel_rfl⟩ (by kernel_rfl) rfl (noLoop (by kernel_rfl)) (law_any s)
  exact hc.law (w := w) (com := fun _ => 0) (vals := [.string s]) (PReps.cons (.str s) (PReps.nil _ _)) fun _ _ => rfl
end Go.Proofs.YtjbjgeekglpmlaaDoor
