/- Patterns: the match of a whole text; by the reckoner: proofs. -/
import Derived.Test.YtdegegajoccdjaaGjT
namespace Go.Proofs.Ytdegegajoccdjaa
open Go.RowKit
set_option linter.unusedVariables false
set_option linter.unusedSimpArgs false
set_option maxRecDepth 100000

theorem ok_allX0 : EntryOk Try.prog 36 (E_allX 0) := ⟨⟨_, Try.func36, by kernel_rfl, by kernel_rfl⟩, fun ivs res bxs h => by
  unfold E_allX at h
  split at h
  · obtain ⟨hc, he⟩ := pick1 h
    cases hc
  · cases h⟩
theorem ok_allXs {f : Nat} (hf : f ≤ 3) (hF : EntryOk Try.prog 36 (E_all f)) : EntryOk Try.prog 36 (E_allX (f + 1)) := ⟨hF.1, fun ivs res bxs h => by
  refine hF.2 ivs res bxs ?_
  unfold E_allX at h
  split at h
  · rename_i s p q
    obtain ⟨hc, he⟩ := pick1 h
    cases he
    simp only [Bool.and_eq_true] at hc
    obtain ⟨⟨⟨⟨⟨k0, k1⟩, k2⟩, k3⟩, k4⟩, k5⟩ := hc
    unfold E_all
    dsimp only
    rw [k1, k3, show itemsB f (asPt p) = true from k2, k4, k5, dT hf]
    rfl
  · cases h⟩
theorem ok_alls : ∀ f : Nat, f ≤ 3 → EntryOk Try.prog 36 (E_all f)
  | 0, _ => ok_all 0 ok_allX0
  | f + 1, h => ok_all (f + 1) (ok_allXs (by omega) (ok_alls f (by omega)))
theorem ok_gjb0 : EntriesOk Try.prog gjb0 := ⟨ok_alls 3 (by omega), trivial⟩
theorem ok_matches : EntryOk Try.prog 18 E_matches := entry_of mix ok_gjb0 (lp := lp_matches) (LO := LO0) ⟨Try.func18, by kernel_rfl, by kernel_rfl⟩ (by kernel_rfl) fun ivs res bxs h => by
  unfold E_matches at h
  split at h
  · rename_i s p_l
    obtain ⟨hc, he⟩ := pick1 h
    cases he
    obtain ⟨hc, k2⟩ := andE hc
    obtain ⟨hc, k1⟩ := andE hc
    have k0 := hc
    obtain ⟨l, rfl, h_l⟩ := isE_inv k0
    have e_l : asPt (pPt l) = l := asPt_mk l
    have i_l := isPt_mk h_l
    try simp only [e_l] at k1
    have c0 := k1
    try simp only [e_l] at k2
    have c1 := of_decide_eq_true k2
    try simp only [e_l]
    refine ⟨noLoop (by kernel_rfl), ?_⟩
    have hn := len_size s
    have tree := q_matches_eq s l
    obtain ⟨st, hst⟩ : ∃ st, st = true :: List.replicate s.size false := ⟨_, rfl⟩
    have hsl : st.length = s.size + 1 := by rw [hst, List.length_cons, List.length_replicate]
    have hss : shBL st := by unfold shBL; omega
    have z : PV.sl (s.size + 1) (PV.bool true :: List.append._f [] PUnit.unit (List.drop 1 (List.flatten (List.replicate (s.size + 1) [PV.bool false])))) = PV.sl st.length (st.map PV.bool) := by
      show PV.sl (s.size + 1) (PV.bool true :: ([] ++ (List.drop 1 (List.flatten (List.replicate (s.size + 1) [PV.bool false]))))) = PV.sl st.length (st.map PV.bool)
      rw [flat_rep, List.replicate_succ, hsl, hst]
      rfl
    have hA : (allV s l st).length = s.size + 1 := by rw [allL_len, hn]
    have hi : s.size < (allV s l st).length := by omega
    have hm : (allV s l st)[s.size] = matchB s.data.toList l := by
      have := match_all s.data.toList l
      rw [hn, ← hst, List.getElem?_eq_getElem (by rw [allL_len, hn]; omega), Option.some.injEq] at this
      exact this
    have b1 : Nat.ble 1 (List.length (List.flatten (List.replicate (s.size + 1) [PV.bool false]))) = true := by rw [flat_rep, List.length_map, List.length_replicate]; exact Nat.ble_eq_true_of_le (by omega)
    have b2 : Nat.ble (s.size * 1) (List.length (List.map PV.bool (allV s l st))) = true := by rw [List.length_map, hA]; exact Nat.ble_eq_true_of_le (by omega)
    simp (disch := first | omega | rfl) only [wrap1, Int.toNat_natCast] at tree
    rw [z, b1] at tree
    simp (disch := first | omega | rfl) only [isPt, isPt_mk h_l, asPt, asPt_mk, isBL, isBL_mk hss, asBL, asBL_mk, c0, dT hsl, dT c1, drop_bools _ s.size hi, hm, b2, decide_true, dT, Nat.beq_refl, List.length_cons, List.headD_cons, blt0, PV.isBool, PV.asBool, Bool.and_true, Bool.true_and] at tree
    exact tree
  · cases h
theorem ok_gjb1 : EntriesOk Try.prog gjb1 := ⟨ok_matches, ok_PatternOk, trivial⟩
theorem ok_MatchPattern : EntryOk Try.prog 8 E_MatchPattern := entry_of mix ok_gjb1 (lp := []) (LO := LO0) ⟨Try.func8, by kernel_rfl, by kernel_rfl⟩ (by kernel_rfl) fun ivs res bxs h => by
  unfold E_MatchPattern at h
  split at h
  · rename_i s p_l
    obtain ⟨hc, he⟩ := pick1 h
    cases he
    have k0 := hc
    obtain ⟨l, rfl, h_l⟩ := isE_inv k0
    have e_l : asPt (pPt l) = l := asPt_mk l
    have i_l := isPt_mk h_l
    try simp only [e_l]
    refine ⟨noLoop (by kernel_rfl), (q_MatchPattern_eq s l).trans ?_⟩
    simp only [isPt, isPt_mk h_l, asPt, asPt_mk, Bool.true_and]
    have d : decide ((s.size : Int) ≤ 64) = decide (s.size ≤ 64) := by rw [Bool.eq_iff_iff, decide_eq_true_eq, decide_eq_true_eq]; omega
    rw [d]
    cases decide (s.size ≤ 64) <;> cases itemsB 3 l <;> rfl
  · cases h
end Go.Proofs.Ytdegegajoccdjaa
