/- Draws of a line, by the reckoner: proofs. -/
import Derived.Test.YtjbjgeekglpmlaaDoorDsP
namespace Go.Proofs.YtjbjgeekglpmlaaDoor
open Go.RowKit
set_option linter.unusedVariables false
set_option linter.unusedSimpArgs false

theorem ok_piece : EntryOk Tryd.prog 30 E_piece := entry_of mix ok_dab2 (lp := []) (LO := LO0) ⟨Tryd.func30, by kernel_rfl, by kernel_rfl⟩ (by kernel_rfl) fun ivs res bxs h => by
  unfold E_piece at h
  split at h
  · rename_i n l a g
    obtain ⟨hc, he⟩ := pick1 h
    cases he
    refine ⟨noLoop (by kernel_rfl), (q_piece_eq n l a g).trans ?_⟩
    have hw : wfT 43 pieceL = true := by kernel_rfl
    show brC (srcOk n l a g && wfT 43 pieceL) _ _ = _
    rw [hc, hw]
    rfl
  · cases h
theorem ok_dab3 : EntriesOk Tryd.prog dab3 := ⟨ok_piece, ok_dab2⟩
theorem one_bs (c : UInt8) (l : List UInt8) : (⟨#[c]⟩ : ByteArray) ++ bs l = bs (c :: l) := by
  rw [← bs_self ((⟨#[c]⟩ : ByteArray) ++ bs l), ByteArray.data_append, Array.toList_append]
  rfl
theorem pad_step {t : ByteArray} (h : t.size < 119) : padA (t ++ ⟨#[97]⟩) = padA t := by
  unfold padA
  have hs : (t ++ ⟨#[97]⟩ : ByteArray).size = t.size + 1 := ByteArray.size_append
  rw [hs, ByteArray.append_assoc, one_bs]
  obtain ⟨d, hd⟩ : ∃ d, 119 - t.size = d + 1 := ⟨118 - t.size, by omega⟩
  rw [hd, show 119 - (t.size + 1) = d by omega, List.replicate_succ]
theorem line2_loop (c : List CV) : ∀ (m : Nat) (t : ByteArray), 119 - t.size = m → t.size ≤ 1048576 → LoopsTo (rdB brC Tryd.prog dab3 lp_line LO_line Tryd.f17 10 [0]) [aB0 c, aS t] (.exit 3, [aB0 c, aS (padA t)]) := by
  intro m
  induction m with
  | zero =>
    intro t hm hs
    have hp : padA t = t := by
      unfold padA
      rw [hm]
      exact ByteArray.append_empty
    rw [hp]
    refine .done _ _ ((r_line2_eq c t).trans ?_)
    simp (disch := omega) only [dF]
    rfl
  | succ m ih =>
    intro t hm hs
    have hz : (t ++ ⟨#[97]⟩ : ByteArray).size = t.size + 1 := ByteArray.size_append
    have tree := r_line2_eq c t
    simp (disch := omega) only [dT, Bool.and_true] at tree
    refine .step _ _ _ tree ?_
    have := ih (t ++ ⟨#[97]⟩) (by omega) (by omega)
    rw [pad_step (by omega)] at this
    exact this
theorem texts_size (l : List PV) (k : Nat) : (textV l k pieceL).size ≤ 10 := by
  have hall : ∀ p ∈ pieceL, p.asStr.size ≤ 10 := by
    intro p hp
    have : pieceL.all (fun p => Nat.ble p.asStr.size 10) = true := by kernel_rfl
    exact Nat.le_of_ble_eq_true (List.all_eq_true.1 this p hp)
  unfold textV
  generalize (pickV l k pieceL.length).toNat = j
  rcases Nat.lt_or_ge j pieceL.length with h | h
  · rw [List.drop_eq_getElem_cons h]
    exact hall _ (List.getElem_mem h)
  · rw [List.drop_eq_nil_of_le h]
    decide
theorem pieces_size (l : List PV) : ∀ (i k : Nat), (piecesV l k i).size ≤ 10 * i
  | 0, k => by show (0 : Nat) ≤ _; omega
  | i + 1, k => by
    have h1 := texts_size l k
    have h2 := pieces_size l i (k + 1)
    have : (piecesV l k (i + 1)).size = (textV l k pieceL).size + (piecesV l (k + 1) i).size := ByteArray.size_append
    omega
theorem srcOk_mk {n : Nat} {l : List PV} {k : Nat} (hw : wfB n l = true) (hk : k ≤ 1048576) (hn : n ≤ 1048576) : srcOk n l k (seedK l k) = true := by
  unfold srcOk
  rw [hw, Int.toNat_natCast, dT (show (0 : Int) ≤ (k : Int) by omega), dT (show (k : Int) ≤ 1048576 by omega), dT hn, beq_self_eq_true]
  rfl
theorem line1_loop (n : Nat) (l : List PV) (hw : wfB n l = true) (hn : n ≤ 1048576) : ∀ (i k : Nat) (t : ByteArray), k + i ≤ 1048576 → t.size + 10 * i ≤ 1048576 →
    LoopsTo (rdB brC Tryd.prog dab3 lp_line LO_line Tryd.f17 3 [0]) [aB0 (sx n l k (seedK l k)), aS t, aI i] (.exit 0, [aB0 (sx n l ((k + i : Nat) : Int) (seedK l (k + i))), aS (t ++ piecesV l k i)]) := by
  intro i
  induction i with
  | zero =>
    intro k t h1 h2
    have : t ++ piecesV l k 0 = t := ByteArray.append_empty
    rw [this]
    refine .done _ _ ((r_line1_eq n l k _ t ((0 : Nat) : Int)).trans ?_)
    simp (disch := omega) only [dF]
    rfl
  | succ i ih =>
    intro k t h1 h2
    have tree := r_line1_eq n l k (seedK l k) t ((i + 1 : Nat) : Int)
    have hz := texts_size l k
    have hs := srcOk_mk hw (show k ≤ 1048576 by omega) hn
    have w : IntKind.wrap .i64 (((i + 1 : Nat) : Int) - 1) = (i : Int) := by rw [wrapI (by omega) (by omega)]; omega
    rw [hs, w, Int.toNat_natCast, dT (show ((i + 1 : Nat) : Int) > 0 by omega), dT (show t.size + (textV l k pieceL).size ≤ 9223372036854775807 by omega)] at tree
    refine .step _ _ _ tree ?_
    have hsz : (t ++ textV l k pieceL).size = t.size + (textV l k pieceL).size := ByteArray.size_append
    have := ih (k + 1) (t ++ textV l k pieceL) (by omega) (by omega)
    rw [ByteArray.append_assoc, show k + 1 + i = k + (i + 1) by omega] at this
    exact this
theorem bs_size' (l : List UInt8) : (bs l).size = l.length := by unfold bs; rfl
/-! A line. -/
abbrev nostr0 : ByteArray := ⟨#[]⟩
def lnI (l : List PV) (k : Nat) : Nat := (pickV l k 10).toNat
def lnK (l : List PV) (k : Nat) : Nat := k + 1 + lnI l k
def lnT (l : List PV) (k : Nat) : ByteArray := nostr0 ++ piecesV l (k + 1) (lnI l k)
def lnC (l : List PV) (k : Nat) : Int := pickV l (lnK l k) 14
def l6L : List PV := [PV.str { data := #[34] }, PV.str { data := #[59] }, PV.str { data := #[0] }, PV.str { data := #[126] }, PV.str { data := #[9] }, PV.str { data := #[34, 97] }]
def l3L : List PV := [PV.str { data := #[] }, PV.str { data := #[98] }, PV.str { data := #[98, 99] }]
def lineV (l : List PV) (k : Nat) : ByteArray := if (lnC l k == 0) = true then lnT l k ++ textV l (lnK l k + 1) l6L else if (lnC l k == 1) = true then padA (lnT l k) ++ textV l (lnK l k + 1) l3L else lnT l k
def lineK (l : List PV) (k : Nat) : Nat := if (lnC l k == 0) = true then lnK l k + 2 else if (lnC l k == 1) = true then lnK l k + 2 else lnK l k + 1
def E_line : Entry := fun ivs => match ivs with
  | [.box 0 [.pv (.sl n l), .pv (.int .i64 a), .pv (.int .u64 g)]] => [(srcOk n l a g && decide (a ≤ 1000000), cS (lineV l a.toNat), [sx n l (lineK l a.toNat : Nat) (seedK l (lineK l a.toNat))])]
  | _ => []
theorem text_size {t : List PV} {m : Nat} (h : t.all (fun p => Nat.ble p.asStr.size m) = true) (l : List PV) (k : Nat) : (textV l k t).size ≤ m := by
  unfold textV
  generalize (pickV l k t.length).toNat = j
  rcases Nat.lt_or_ge j t.length with hj | hj
  · rw [List.drop_eq_getElem_cons hj]
    exact Nat.le_of_ble_eq_true (List.all_eq_true.1 h _ (List.getElem_mem hj))
  · rw [List.drop_eq_nil_of_le hj]
    exact Nat.zero_le _
theorem pad_size (t : ByteArray) : (padA t).size ≤ t.size + 119 := by
  unfold padA
  rw [ByteArray.size_append, bs_size', List.length_replicate]
  omega
theorem line_any (n : Nat) (l : List PV) (k : Nat) (hw : wfB n l = true) (hn : n ≤ 1048576) (hk : k ≤ 1000000) : q_line brC n l k (seedK l k) = some (cS (lineV l k), [sx n l (lineK l k : Nat) (seedK l (lineK l k))]) := by
  refine (q_line_eq n l k _).trans ?_
  obtain ⟨r1, r2⟩ := pickV_range hw k (m := 10) (by omega)
  obtain ⟨i, hi⟩ := Int.eq_ofNat_of_zero_le r1
  have hI : lnI l k = i := by unfold lnI; rw [hi]; rfl
  have hK : lnK l k = k + 1 + i := by unfold lnK; rw [hI]
  have hT : lnT l k = nostr0 ++ piecesV l (k + 1) i := by unfold lnT; rw [hI]
  have hC : lnC l k = pickV l (k + 1 + i) 14 := by unfold lnC; rw [hK]
  have s0 := srcOk_mk hw (show k ≤ 1048576 by omega) hn
  have s1 := srcOk_mk hw (show k + 1 ≤ 1048576 by omega) hn
  have s2 := srcOk_mk hw (show k + 1 + i ≤ 1048576 by omega) hn
  have s3 := srcOk_mk hw (show k + 1 + i + 1 ≤ 1048576 by omega) hn
  have e1 : (k : Int) + 1 = ((k + 1 : Nat) : Int) := by omega
  have e2 : ((k + 1 : Nat) : Int) + (i : Int) = ((k + 1 + i : Nat) : Int) := by omega
  have e3 : ((k + 1 + i : Nat) : Int) + 1 = ((k + 1 + i + 1 : Nat) : Int) := by omega
  have e4 : ((k + 1 + i + 1 : Nat) : Int) + 1 = ((k + 1 + i + 2 : Nat) : Int) := by omega
  have hps := pieces_size l i (k + 1)
  have hz : (nostr0 ++ piecesV l (k + 1) i).size ≤ 1048576 := by
    rw [ByteArray.size_append]
    show 0 + _ ≤ _
    omega
  simp only [Int.toNat_natCast, hi, e1, e2, e3, e4, s0, s1, s2, s3]
  unfold lineV lineK
  rw [hC, hK, hT]
  have z6 := text_size (t := l6L) (m := 2) (by kernel_rfl) l (k + 1 + i + 1)
  have z3 := text_size (t := l3L) (m := 2) (by kernel_rfl) l (k + 1 + i + 1)
  have zp := pad_size (nostr0 ++ piecesV l (k + 1) i)
  have w6 : wfT 6 l6L = true := by kernel_rfl
  have w3 : wfT 3 l3L = true := by kernel_rfl
  have d1 : decide (0 ≤ (i : Int)) = true := dT (by omega)
  have d2 : decide (((k + 1 + i : Nat) : Int) ≤ 1048576) = true := dT (by omega)
  have d3 : decide (((0 : Nat) : Int) + 10 * (i : Int) ≤ 1048576) = true := dT (by omega)
  have d4 : decide ((nostr0 ++ piecesV l (k + 1) i).size + (textV l (k + 1 + i + 1) l6L).size ≤ 9223372036854775807) = true := dT (by omega)
  have d5 : decide ((padA (nostr0 ++ piecesV l (k + 1) i)).size + (textV l (k + 1 + i + 1) l3L).size ≤ 9223372036854775807) = true := dT (by omega)
  have d6 : decide ((nostr0 ++ piecesV l (k + 1) i).size ≤ 1048576) = true := dT hz
  cases hc0 : (pickV l (k + 1 + i) 14 == 0) with
  | true =>
    rw [if_pos rfl, if_pos rfl]
    show brC (true && true) (brC (true && decide (0 ≤ (i : Int)) && decide (((k + 1 + i : Nat) : Int) ≤ 1048576) && decide (((0 : Nat) : Int) + 10 * (i : Int) ≤ 1048576)) (brC (true && true) (brC true (brC (true && wfT 6 l6L) (brC (decide ((nostr0 ++ piecesV l (k + 1) i).size + (textV l (k + 1 + i + 1) l6L).size ≤ 9223372036854775807) && true) _ _) _) _) _) _) _ = _
    rw [d1, d2, d3, w6, d4]
    rfl
  | false =>
    rw [if_neg Bool.false_ne_true, if_neg Bool.false_ne_true]
    cases hc1 : (pickV l (k + 1 + i) 14 == 1) with
    | true =>
      rw [if_pos rfl, if_pos rfl]
      show brC (true && true) (brC (true && decide (0 ≤ (i : Int)) && decide (((k + 1 + i : Nat) : Int) ≤ 1048576) && decide (((0 : Nat) : Int) + 10 * (i : Int) ≤ 1048576)) (brC (true && true) (brC false _ (brC true (brC (decide ((nostr0 ++ piecesV l (k + 1) i).size ≤ 1048576)) (brC (true && wfT 3 l3L) (brC (decide ((padA (nostr0 ++ piecesV l (k + 1) i)).size + (textV l (k + 1 + i + 1) l3L).size ≤ 9223372036854775807) && true) _ _) _) _) _)) _) _) _ = _
      rw [d1, d2, d3, d6, w3, d5]
      rfl
    | false =>
      rw [if_neg Bool.false_ne_true, if_neg Bool.false_ne_true]
      show brC (true && true) (brC (true && decide (0 ≤ (i : Int)) && decide (((k + 1 + i : Nat) : Int) ≤ 1048576) && decide (((0 : Nat) : Int) + 10 * (i : Int) ≤ 1048576)) (brC (true && true) (brC false _ (brC false _ _)) _) _) _ = _
      rw [d1, d2, d3]
      rfl
theorem ok_line : EntryOk Tryd.prog 17 E_line := entry_of mix ok_dab3 (lp := lp_line) (LO := LO_line) ⟨Tryd.func17, by kernel_rfl, by kernel_rfl⟩ (by kernel_rfl) fun ivs res bxs h => by
  unfold E_line at h
  split at h
  · rename_i n l a g
    obtain ⟨hc, he⟩ := pick1 h
    cases he
    rw [Bool.and_eq_true] at hc
    obtain ⟨k, rfl, hk, hn, rfl, hw⟩ := srcOk_inv hc.1
    have hk2 := of_decide_eq_true hc.2
    refine ⟨manyLoops [3, 10] (by kernel_rfl) (fun k hk => ?_) (fun k hk => ?_), line_any n l k hw hn (by omega)⟩
    · rcases List.mem_cons.1 hk with rfl | hk
      · kernel_rfl
      · rw [List.mem_singleton.1 hk]; kernel_rfl
    · rcases List.mem_cons.1 hk with rfl | hk
      · refine ⟨noLoop (by kernel_rfl), fun ls e ls' hl => ?_⟩
        unfold LO_line at hl
        rw [Nat.beq_refl, cond_true] at hl
        split at hl
        · rename_i n l a g t i
          obtain ⟨hc, he⟩ := pick1 hl
          cases he
          simp only [Bool.and_eq_true, decide_eq_true_eq] at hc
          obtain ⟨⟨⟨h1, h2⟩, h3⟩, h4⟩ := hc
          obtain ⟨k, rfl, hk, hn, rfl, hw⟩ := srcOk_inv h1
          obtain ⟨i, rfl⟩ := Int.eq_ofNat_of_zero_le h2
          exact line1_loop n l hw hn i k t (by omega) (by omega)
        · cases hl
      · rw [List.mem_singleton.1 hk]
        refine ⟨noLoop (by kernel_rfl), fun ls e ls' hl => ?_⟩
        unfold LO_line at hl
        rw [show Nat.beq 10 3 = false from rfl, cond_false] at hl
        split at hl
        · rename_i c t
          obtain ⟨hc, he⟩ := pick1 hl
          cases he
          exact line2_loop c _ t rfl (of_decide_eq_true hc)
        · cases hl
  · cases h
theorem ok_dab4 : EntriesOk Tryd.prog ((17, E_line) :: dab3) := ⟨ok_line, ok_dab3⟩
end Go.Proofs.YtjbjgeekglpmlaaDoor
