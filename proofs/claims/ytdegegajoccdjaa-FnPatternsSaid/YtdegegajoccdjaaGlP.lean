/- Patterns: subjects, the law, by the reckoner: proofs. -/
import Derived.Test.YtdegegajoccdjaaGlT
namespace Go.Proofs.Ytdegegajoccdjaa
open Go.RowKit
set_option linter.unusedVariables false
set_option linter.unusedSimpArgs false
set_option maxRecDepth 100000

theorem bytes0 : ∀ c : Nat, bytesOf (List.flatten (List.replicate c [PV.int IntKind.u8 0])) = some (List.replicate c 0)
  | 0 => rfl
  | c + 1 => by
    rw [List.replicate_succ, List.flatten_cons]
    show (bytesOf (List.flatten (List.replicate c [PV.int IntKind.u8 0]))).bind (fun r => some (UInt8.ofNat (Int.toNat 0) :: r)) = _
    rw [bytes0 c]
    rfl
theorem len0 (x : PV) : ∀ c : Nat, (List.flatten (List.replicate c [x])).length = c
  | 0 => rfl
  | c + 1 => by
    rw [List.replicate_succ, List.flatten_cons, List.length_append, len0 x c, List.length_singleton]
    omega
theorem ok_glb0 : EntriesOk Try.prog glb0 := ⟨ok_draws 2 (by omega), ok_dab0⟩
theorem ok_A8Pat : EntryOk Try.prog 5 E_A8Pat := entry_of mix ok_glb0 (lp := []) (LO := LO0) ⟨Try.func5, by kernel_rfl, by kernel_rfl⟩ (by kernel_rfl) fun ivs res bxs h => by
  unfold E_A8Pat at h
  split at h
  · rename_i n l
    obtain ⟨hc, he⟩ := pick1 h
    cases he
    simp only [Bool.and_eq_true, decide_eq_true_eq] at hc
    refine ⟨noLoop (by kernel_rfl), (q_A8Pat_eq n l).trans ?_⟩
    have s0 : srcOk n l 0 0 = true := srcOk_mk hc.1 (show 0 ≤ 1048576 by omega) hc.2
    rw [s0, patV_eq]
    rfl
  · cases h
theorem sub_loop {n : Nat} {l : List PV} (hw : wfB n l = true) (hn : n ≤ 1048577) : ∀ (i k : Nat) (t : ByteArray), k + i ≤ 1001000 → t.size + 2 * i ≤ 200 →
    LoopsTo (rdB brC Try.prog dab5 lp_sub LO_sub Try.f17 3 [0]) [aB0 (sk n l k), aS t, aI i] (.exit 0, [aB0 (sk n l (k + i)), aS (subW l i k t)]) := by
  intro i
  induction i with
  | zero =>
    intro k t hk ht
    have tree := r_sub_eq n l k (seedK l k) t (0 : Nat)
    rw [dF (by omega)] at tree
    exact .done _ _ tree
  | succ i ih =>
    intro k t hk ht
    have hs : (textV l k suT).size ≤ 2 := text_size (t := suT) (m := 2) (by decide) l k
    have ih' := ih (k + 1) (t ++ textV l k suT) (by omega) (by rw [ByteArray.size_append]; omega)
    have s0 := srcOk_mk hw (show k ≤ 1048576 by omega) hn
    have w2 : IntKind.wrap .i64 (((i + 1 : Nat) : Int) - 1) = (i : Int) := by rw [wrapI (by omega) (by omega)]; omega
    have tree := r_sub_eq n l k (seedK l k) t (i + 1 : Nat)
    rw [show ([PV.str ⟨#[97]⟩, PV.str ⟨#[98]⟩, PV.str ⟨#[49]⟩, PV.str ⟨#[50]⟩, PV.str ⟨#[45]⟩, PV.str ⟨#[65]⟩, PV.str ⟨#[32]⟩, PV.str ⟨#[0]⟩, PV.str ⟨#[97, 98]⟩, PV.str ⟨#[34]⟩] : List PV) = suT from rfl, show wfT 10 suT = true from rfl] at tree
    simp (disch := omega) only [cast1, Int.toNat_natCast, s0, w2, dT, Bool.and_true, Bool.true_and] at tree
    rw [show k + (i + 1) = k + 1 + i by omega]
    exact .step _ _ _ tree ih'
theorem subW_size (l : List PV) : ∀ (i k : Nat) (t : ByteArray), (subW l i k t).size ≤ t.size + 2 * i
  | 0, k, t => by unfold subW; omega
  | i + 1, k, t => by
    have hs : (textV l k suT).size ≤ 2 := text_size (t := suT) (m := 2) (by decide) l k
    have := subW_size l i (k + 1) (t ++ textV l k suT)
    rw [ByteArray.size_append] at this
    unfold subW
    omega
theorem loops_sub : ∀ b ∈ loopsIn (bodyOf Try.f17), LoopOk Try.prog (tabL dab5) (OL lp_sub) Try.f17.ntmps (pbOf [0]) LO_sub b := by
  refine oneLoop 3 (by kernel_rfl) (by kernel_rfl) (by kernel_rfl) ?_
  intro ls e ls' hl
  unfold LO_sub at hl
  split at hl
  · rename_i n l a g t i
    obtain ⟨hc, he⟩ := pick1 hl
    cases he
    simp only [Bool.and_eq_true, decide_eq_true_eq] at hc
    obtain ⟨⟨⟨⟨k0, k1⟩, k2⟩, k3⟩, k4⟩ := hc
    obtain ⟨q, rfl, hk, hn, rfl, hw⟩ := srcOk_inv k0
    obtain ⟨j, rfl⟩ := Int.eq_ofNat_of_zero_le k2
    exact sub_loop hw hn j q t (by omega) (by omega)
  · cases hl
theorem sub_draw : DrawOk (fun n l k => q_sub brC n l k (seedK l k)) (fun s : ByteArray => cS s) (fun s : ByteArray => s.size ≤ 1000000) 20 900000 := by
  intro n l k hw hn hk
  have tree := q_sub_eq n l k (seedK l k)
  obtain ⟨p1, p2⟩ := pickV_range hw k (m := 7) (by omega)
  obtain ⟨c, hc⟩ := Int.eq_ofNat_of_zero_le p1
  have s0 := srcOk_mk hw (show k ≤ 1048576 by omega) hn
  have s1 := srcOk_mk hw (show k + 1 ≤ 1048576 by omega) hn
  have s2 := srcOk_mk hw (show k + 1 + c ≤ 1048576 by omega) hn
  have s3 := srcOk_mk hw (show k + 1 + c + 1 ≤ 1048576 by omega) hn
  obtain ⟨u1, u2⟩ := pickV_range hw (k + 1 + c + 1) (m := 2) (by omega)
  obtain ⟨d, hd⟩ := Int.eq_ofNat_of_zero_le u1
  have w3 : IntKind.wrap .i64 (64 + (d : Int)) = ((64 + d : Nat) : Int) := by rw [wrapI (by omega) (by omega)]; omega
  rw [hc] at p2
  simp (disch := omega) only [hc, cast1, Int.toNat_natCast, s0, s1, s2, s3, hd, w3, len0, bytes0, Option.isSome_some, Option.getD_some, dT, Nat.beq_refl, Bool.and_true, Bool.true_and] at tree
  have hsz := subW_size l c (k + 1) ⟨#[]⟩
  have hz : (⟨#[]⟩ : ByteArray).size = 0 := rfl
  cases h0 : (pickV l (k + 1 + c) 30 == 0) with
  | true =>
    rw [h0] at tree
    exact ⟨⟨(List.replicate (64 + d) (0 : UInt8)).toArray⟩, k + 1 + c + 1 + 1, by omega, by omega, by show (List.replicate (64 + d) (0 : UInt8)).toArray.size ≤ 1000000; simp; omega, tree⟩
  | false =>
    rw [h0] at tree
    exact ⟨subW l c (k + 1) ⟨#[]⟩, k + 1 + c + 1, by omega, by omega, by omega, tree⟩
theorem ok_sub : EntryOk Try.prog 17 E_sub := entry_of mix ok_dab5 (lp := lp_sub) (LO := LO_sub) ⟨Try.func17, by kernel_rfl, by kernel_rfl⟩ (by kernel_rfl) fun ivs res bxs h => by
  unfold E_sub at h
  split at h
  · rename_i n l a g
    obtain ⟨hc, he⟩ := pick1 h
    cases he
    simp only [Bool.and_eq_true, decide_eq_true_eq] at hc
    obtain ⟨q, rfl, hk, hn, rfl, hw⟩ := srcOk_inv hc.1
    rw [Int.toNat_natCast]
    exact ⟨loops_sub, (drawV_ok sub_draw hw hn (k := q) (by omega)).2.2.2⟩
  · cases h
theorem ok_glb1 : EntriesOk Try.prog glb1 := ⟨ok_sub, ok_dab0⟩
theorem ok_A8Sub : EntryOk Try.prog 7 E_A8Sub := entry_of mix ok_glb1 (lp := []) (LO := LO0) ⟨Try.func7, by kernel_rfl, by kernel_rfl⟩ (by kernel_rfl) fun ivs res bxs h => by
  unfold E_A8Sub at h
  split at h
  · rename_i n l
    obtain ⟨hc, he⟩ := pick1 h
    cases he
    simp only [Bool.and_eq_true, decide_eq_true_eq] at hc
    refine ⟨noLoop (by kernel_rfl), (q_A8Sub_eq n l).trans ?_⟩
    have s0 : srcOk n l 0 0 = true := srcOk_mk hc.1 (show 0 ≤ 1048576 by omega) hc.2
    rw [s0]
    rfl
  · cases h
theorem suV_size {n : Nat} {l : List PV} (hw : wfB n l = true) (hn : n ≤ 1048577) : (suV n l).size ≤ 1000000 := (drawV_ok sub_draw hw hn (k := 0) (by omega)).2.2.1
theorem ok_mix : EntryOk Try.prog 6 E_mix := entry_of mix (tab := []) trivial (lp := []) (LO := LO0) ⟨Try.func6, by kernel_rfl, by kernel_rfl⟩ (by kernel_rfl) fun ivs res bxs h => by
  unfold E_mix at h
  split at h
  · rename_i i n l
    obtain ⟨hc, he⟩ := pick1 h
    cases he
    simp only [Bool.and_eq_true, decide_eq_true_eq, beq_iff_eq] at hc
    obtain ⟨⟨hw, hn⟩, rfl⟩ := hc
    refine ⟨noLoop (by kernel_rfl), (q_mix_eq n l).trans ?_⟩
    have hl : l.length = n := by
      unfold wfB at hw
      rw [Bool.and_eq_true] at hw
      exact Nat.eq_of_beq_eq_true hw.1
    rw [hl, Nat.mul_one, Nat.beq_refl, dT (by omega), dT (by omega), Nat.add_comm 1 n]
    rfl
  · cases h
theorem wfB_cons {n : Nat} {l : List PV} (hw : wfB n l = true) : wfB (n + 1) (byteP 1 :: l) = true := by
  unfold wfB at hw ⊢
  rw [Bool.and_eq_true] at hw ⊢
  exact ⟨by rw [List.length_cons, Nat.eq_of_beq_eq_true hw.1]; exact Nat.beq_refl _, by rw [List.all_cons, hw.2]; rfl⟩
theorem ok_glb2 : EntriesOk Try.prog glb2 := ⟨ok_A8Pat, ok_A8Sub, ok_mix, ok_MatchPattern, ok_PatternOk, trivial⟩
/-! The plain law. -/
theorem itemsL_app (f : Nat) : ∀ a b : List PatT, itemsL f (a ++ b) = (itemsL f a && itemsL f b)
  | [], b => by simp only [List.nil_append, itemsL, Bool.true_and]
  | x :: a, b => by
    rw [List.cons_append]
    rw [show itemsL f (x :: (a ++ b)) = (itemB f x && itemsL f (a ++ b)) by simp only [itemsL], show itemsL f (x :: a) = (itemB f x && itemsL f a) by simp only [itemsL], itemsL_app f a b, Bool.and_assoc]
mutual
theorem itemB_up : ∀ {f : Nat} (x : PatT), itemB f x = true → itemB (f + 1) x = true
  | f, .mk lo hi c t al, h => by
    unfold itemB at h ⊢
    simp only [Bool.and_eq_true] at h ⊢
    refine ⟨h.1, ?_⟩
    have h2 := h.2
    split at h2
    · rename_i hc
      rw [if_pos hc]
      exact h2
    · rename_i hc
      rw [if_neg hc]
      split at h2
      · rename_i ht
        rw [if_pos ht]
        exact h2
      · rename_i ht
        rw [if_neg ht]
        simp only [Bool.and_eq_true, decide_eq_true_eq] at h2 ⊢
        refine ⟨⟨h2.1.1, by omega⟩, ?_⟩
        have := altsB_up al h2.2
        rwa [show f - 1 + 1 = f + 1 - 1 by omega] at this
theorem itemsL_up : ∀ {f : Nat} (l : List PatT), itemsL f l = true → itemsL (f + 1) l = true
  | f, [], h => by simp only [itemsL]
  | f, x :: r, h => by
    unfold itemsL at h ⊢
    rw [Bool.and_eq_true] at h ⊢
    exact ⟨itemB_up x h.1, itemsL_up r h.2⟩
theorem altsB_up : ∀ {f : Nat} (l : List (List PatT)), altsB f l = true → altsB (f + 1) l = true
  | f, [], h => by simp only [altsB]
  | f, x :: r, h => by
    unfold altsB at h ⊢
    rw [Bool.and_eq_true, Bool.and_eq_true] at h ⊢
    exact ⟨⟨h.1.1, itemsL_up x h.1.2⟩, altsB_up r h.2⟩
end
theorem itemsB_up {f : Nat} {l : List PatT} (h : itemsB f l = true) : itemsB (f + 1) l = true := by
  unfold itemsB at h ⊢
  rw [Bool.and_eq_true] at h ⊢
  exact ⟨h.1, itemsL_up l h.2⟩
theorem items_app {p q : List PatT} (hp : itemsB 3 p = true) (hq : itemsB 3 q = true) (hl : p.length + q.length ≤ 8) : itemsB 3 (p ++ q) = true := by
  unfold itemsB rngI at hp hq ⊢
  simp only [Bool.and_eq_true, decide_eq_true_eq] at hp hq ⊢
  rw [itemsL_app, hp.2, hq.2, List.length_append]
  exact ⟨⟨by omega, by omega⟩, rfl⟩
abbrev allP : List PatT := [.mk 0 (-1) ⟨#[69]⟩ ⟨#[]⟩ []]
abbrev altP (p q : List PatT) : List PatT := [.mk 1 1 ⟨#[]⟩ ⟨#[]⟩ [p, q]]
theorem all_ok : itemsB 3 allP = true := by decide
theorem all_match (s : List UInt8) : matchB s allP = true := holds_mk (whole_any rfl)
theorem alt_match (s : List UInt8) (p q : List PatT) : matchB s (altP p q) = (matchB s p || matchB s q) := by
  rw [Bool.eq_iff_iff, Bool.or_eq_true]
  unfold matchB
  rw [holds_iff, holds_iff, holds_iff]
  exact whole_alt rfl rfl
theorem alt_ok {p q : List PatT} (h : itemsB 3 (altP p q) = true) : itemsB 3 p = true ∧ itemsB 3 q = true := by
  unfold itemsB at h
  rw [Bool.and_eq_true] at h
  have h2 := itemsL_at h.2 (i := 0) (by simp)
  obtain ⟨_, _, _, g4, _⟩ := item_facts h2
  exact ⟨itemsB_up (altsB_at (show altsB 2 [p, q] = true from g4) (i := 0) (by simp)), itemsB_up (altsB_at (show altsB 2 [p, q] = true from g4) (i := 1) (by simp))⟩
theorem app_match {s t : ByteArray} {p q : List PatT} (hp : matchB s.data.toList p = true) (hq : matchB t.data.toList q = true) : matchB (s ++ t).data.toList (p ++ q) = true := by
  unfold matchB at *
  rw [holds_iff] at *
  rw [ByteArray.data_append, Array.toList_append]
  exact whole_app hp hq

theorem shP_nil (d : Nat) : shPt d [] := by simp only [shPt]
theorem shA_nil (d : Nat) : shAl d [] := by simp only [shAl]
theorem shPts_all : shPts allP := ⟨by simp, by unfold shPt; exact ⟨by omega, by omega, show 1 ≤ 1000000 by omega, Nat.zero_le _, Nat.zero_le _, .inl rfl, shA_nil _, shP_nil _⟩⟩
theorem shPts_alt {p q : List PatT} (hp : p.length ≤ 1000 ∧ shPt 8 p) (hq : q.length ≤ 1000 ∧ shPt 8 q) : shPts (altP p q) := ⟨by simp, by
  unfold shPt
  refine ⟨by omega, by omega, Nat.zero_le _, Nat.zero_le _, show 2 ≤ 1000 by omega, .inr (by omega), ?_, shP_nil _⟩
  unfold shAl
  refine ⟨hp.1, hp.2, ?_⟩
  unfold shAl
  exact ⟨hq.1, hq.2, shA_nil _⟩⟩
theorem shPt_app {d : Nat} : ∀ {p q : List PatT}, shPt d p → shPt d q → shPt d (p ++ q)
  | [], q, _, h => h
  | x :: p, q, h, k => (shPt_cons x (p ++ q)).2 ⟨((shPt_cons x p).1 h).1, shPt_app ((shPt_cons x p).1 h).2 k⟩
theorem patV_sh {n : Nat} {l : List PV} (hw : wfB n l = true) : (patV l).length ≤ 3 ∧ shPt 8 (patV l) := by
  rw [patV_eq]
  obtain ⟨_, _, _, a4⟩ := drawP_facts hw 2 0
  refine ⟨?_, shPt_mono _ (by omega) a4⟩
  obtain ⟨p1, p2⟩ := pickV_range hw 0 (m := 3) (by omega)
  unfold drawW
  rw [drawP_eq]
  have h : ∀ k, k ≤ (oneP l 2 k).2 ∧ (oneP l 2 k).2 ≤ k + 186 ∧ shPt 3 [(oneP l 2 k).1] := fun k => by
    obtain ⟨h1, h2⟩ := oneP_le hw (show 2 ≤ 2 by omega) k
    refine ⟨h1, h2, ?_⟩
    rw [oneP_eq]
    obtain ⟨_, _, h3, _⟩ := dOne_facts hw (decide (0 < 2)) (rec := drawP l (2 - 1)) (d := 2 - 1) (B := lisC (2 - 1)) (fun _ => drawP_facts hw (2 - 1)) k
    exact shPt_mono _ (by omega) h3
  obtain ⟨_, _, a3, _⟩ := dMany_facts h (1 + pickV l 0 3).toNat (0 + 1)
  rw [a3]
  omega
theorem law_any (n : Nat) (l : List PV) (hw : wfB n l = true) : q_law brC n l = some (cB true, []) := by
  have tree := q_law_eq n l
  by_cases hn : n ≤ 1048576
  · have hw1 := wfB_cons hw
    obtain ⟨hp, hp8⟩ := patV_sh hw
    obtain ⟨hq, hq8⟩ := patV_sh hw1
    have hs := suV_size hw (by omega : n ≤ 1048577)
    have ht := suV_size hw1 (by omega : n + 1 ≤ 1048577)
    rw [dF (show ¬ (n : Int) > 1048576 by omega), hw, hw1, dT hn, dT (show n ≤ 1048577 by omega), dT (show n + 1 ≤ 1048577 by omega)] at tree
    generalize patV l = p at hp hp8 tree
    generalize patV (byteP 1 :: l) = q at hq hq8 tree
    generalize suV n l = s at hs tree
    generalize suV (n + 1) (byteP 1 :: l) = t at ht tree
    have shp : shPts p := ⟨by omega, shPt_mono _ (by omega) hp8⟩
    have shq : shPts q := ⟨by omega, shPt_mono _ (by omega) hq8⟩
    have iA : isE pPt shPts (PV.sl 1 [.int .i64 0, .int .i64 (-1), .str ⟨#[69]⟩, .str ⟨#[]⟩, .sl 0 []]) = true := by
      have := isPt_mk shPts_all
      rw [encPt_cons, encPt_nil, show encAl (PatT.mk 0 (-1) ⟨#[69]⟩ ⟨#[]⟩ []).alts = [] from encAl_nil] at this
      exact this
    have eA : asE pPt (PV.sl 1 [.int .i64 0, .int .i64 (-1), .str ⟨#[69]⟩, .str ⟨#[]⟩, .sl 0 []]) = allP := by
      have := asPt_mk allP
      rw [encPt_cons, encPt_nil, show encAl (PatT.mk 0 (-1) ⟨#[69]⟩ ⟨#[]⟩ []).alts = [] from encAl_nil] at this
      exact this
    have eal : encAl [p, q] = [.sl p.length (encPt p), .sl q.length (encPt q)] := by rw [encAl_cons, encAl_cons, encAl_nil]
    have iB : isE pPt shPts (PV.sl 1 [.int .i64 1, .int .i64 1, .str ⟨#[]⟩, .str ⟨#[]⟩, .sl 2 [.sl p.length (encPt p), .sl q.length (encPt q)]]) = true := by
      have := isPt_mk (shPts_alt (p := p) (q := q) ⟨by omega, hp8⟩ ⟨by omega, hq8⟩)
      rw [encPt_cons, encPt_nil, show encAl (PatT.mk 1 1 ⟨#[]⟩ ⟨#[]⟩ [p, q]).alts = _ from eal] at this
      exact this
    have eB : asE pPt (PV.sl 1 [.int .i64 1, .int .i64 1, .str ⟨#[]⟩, .str ⟨#[]⟩, .sl 2 [.sl p.length (encPt p), .sl q.length (encPt q)]]) = altP p q := by
      have := asPt_mk (altP p q)
      rw [encPt_cons, encPt_nil, show encAl (PatT.mk 1 1 ⟨#[]⟩ ⟨#[]⟩ [p, q]).alts = _ from eal] at this
      exact this
    have shpq : shPts (p ++ q) := ⟨by rw [List.length_append]; omega, shPt_app shp.2 shq.2⟩
    have z : PV.sl (0 + p.length + q.length) ([] ++ encPt p ++ encPt q) = PV.sl (p ++ q).length (encPt (p ++ q)) := by rw [List.length_append, encPt_app, List.nil_append, Nat.zero_add]
    have e1 : decide ((s.size : Int) ≤ 64) = decide (s.size ≤ 64) := by rw [Bool.eq_iff_iff, decide_eq_true_eq, decide_eq_true_eq]; omega
    have w1 : IntKind.wrap .i64 ((s.size : Int) + (t.size : Int)) = ((s.size + t.size : Nat) : Int) := by rw [wrapI (by omega) (by omega)]; omega
    have w2 : IntKind.wrap .i64 ((p.length : Int) + (q.length : Int)) = ((p.length + q.length : Nat) : Int) := by rw [wrapI (by omega) (by omega)]; omega
    have b1 : Nat.beq (encPt p).length (p.length * 5) = true := by rw [encPt_len]; exact Nat.beq_refl _
    have b2 : Nat.beq (encPt q).length (q.length * 5) = true := by rw [encPt_len]; exact Nat.beq_refl _
    simp (disch := omega) only [z, isPt, iA, iB, isPt_mk shp, isPt_mk shq, isPt_mk shpq, asPt, eA, eB, asPt_mk, all_ok, all_match, alt_match, e1, w1, w2, b1, b2, dT, beq_self_eq_true, Bool.and_true, Bool.true_and] at tree
    have H1 := alt_ok (p := p) (q := q)
    have H2 : decide (((s.size + t.size : Nat) : Int) > 64) = false → decide (((p.length + q.length : Nat) : Int) > 8) = false → itemsB 3 p = true → matchB s.data.toList p = true → itemsB 3 q = true → matchB t.data.toList q = true → (decide ((s ++ t).size ≤ 64) && (itemsB 3 (p ++ q) && matchB (s ++ t).data.toList (p ++ q))) = true := by
      intro g1 g2 g3 g4 g5 g6
      have g1 := of_decide_eq_false g1
      have g2 := of_decide_eq_false g2
      rw [items_app g3 g5 (by omega), app_match g4 g6, dT (show (s ++ t).size ≤ 64 by rw [ByteArray.size_append]; omega)]
      rfl
    refine tree.trans ?_
    clear tree
    generalize (decide ((s ++ t).size ≤ 64) && (itemsB 3 (p ++ q) && matchB (s ++ t).data.toList (p ++ q))) = F at H2 ⊢
    generalize decide (((s.size + t.size : Nat) : Int) > 64) = d1 at H2 ⊢
    generalize decide (((p.length + q.length : Nat) : Int) > 8) = d2 at H2 ⊢
    generalize itemsB 3 (altP p q) = ia at H1 ⊢
    generalize itemsB 3 p = ip at H1 H2 ⊢
    generalize itemsB 3 q = iq at H1 H2 ⊢
    generalize matchB s.data.toList p = mp at H2 ⊢
    generalize matchB s.data.toList q = mq at H2 ⊢
    generalize matchB t.data.toList q = mt at H2 ⊢
    generalize decide (s.size ≤ 64) = a
    generalize decide (t.size ≤ 64) = b
    cases ia with
    | true =>
      obtain ⟨rfl, rfl⟩ := H1 rfl
      cases a <;> cases b <;> cases mp <;> cases mq <;> cases mt <;> cases d1 <;> cases d2 <;> first | rfl | (cases H2 rfl rfl rfl rfl rfl rfl; rfl)
    | false =>
      cases a <;> cases b <;> cases ip <;> cases iq <;> cases mp <;> cases mt <;> cases d1 <;> cases d2 <;> first | rfl | (cases H2 rfl rfl rfl rfl rfl rfl; rfl)
  · rw [dT (show (n : Int) > 1048576 by omega)] at tree
    exact tree
end Go.Proofs.Ytdegegajoccdjaa
