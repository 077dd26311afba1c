/- Patterns: what one match, an item, a list of items reach; by the reckoner: proofs. -/
import Derived.Test.YtdegegajoccdjaaGhT
namespace Go.Proofs.Ytdegegajoccdjaa
open Go.RowKit
set_option linter.unusedVariables false
set_option linter.unusedSimpArgs false
set_option maxRecDepth 100000

theorem ok_HPre : EntryOk Try.prog 71 E_HPre := ⟨⟨_, Try.func71, by kernel_rfl, by kernel_rfl⟩, fun ivs res bxs h => by
  unfold E_HPre at h
  split at h
  · rename_i a c
    cases h
    refine contract_flat (ps := [.str a, .str c]) (v := .bool (Lib.hasPrefix a.data.toList c.data.toList)) rfl fun w com vals hv _ => ?_
    obtain ⟨v, vs, rfl, hv1, hn⟩ := hv.of_cons
    obtain ⟨v2, vs2, rfl, hv2, hn2⟩ := hn.of_cons
    rw [hn2.of_nil]
    cases hv1
    cases hv2
    refine (Try.strings_HasPrefix a c w).mono ?_
    rintro e w' ⟨rfl, rfl⟩
    exact ⟨rfl, Below.refl _ _⟩
  · cases h⟩
theorem ok_ghb0 : EntriesOk Try.prog ghb0 := ⟨ok_HPre, ok_ConC, ok_join, trivial⟩
theorem ok_ghb1 (f : Nat) (hX : EntryOk Try.prog 36 (E_allX f)) : EntriesOk Try.prog (ghb1 f) := ⟨hX, ok_ghb0⟩
theorem ok_CloB : EntryOk Try.prog 61 E_CloB := entry_of mix (tab := []) trivial (lp := [(1000000, [5, 7], [])]) (LO := LO0) ⟨Try.func61, by kernel_rfl, by kernel_rfl⟩ (by kernel_rfl) fun ivs res bxs h => by
  unfold E_CloB at h
  split at h
  · rename_i p
    obtain ⟨hc, he⟩ := pick1 h
    cases he
    rw [Bool.and_eq_true, decide_eq_true_eq] at hc
    obtain ⟨t, rfl, ht⟩ := isE_inv hc.1
    have e1 : asBL (pBL t) = t := asBL_mk t
    have h2 := hc.2
    rw [e1] at h2 ⊢
    have hl : t.length ≤ 100000 := ht
    cases t with
    | nil => simp at h2
    | cons x t =>
      have tree := q_CloB_eq x t
      rw [List.length_cons] at hl
      have b1 : Nat.beq (PV.bool x :: List.map PV.bool t).length ((t.length + 1) * 1) = true := by rw [List.length_cons, List.length_map, Nat.mul_one]; exact Nat.beq_refl _
      rw [b1, dT (show 0 + (t.length + 1) ≤ 140737488351232 by omega), dT (show (0 + (t.length + 1)) * 1 ≤ 140737488355328 by omega), Nat.zero_add] at tree
      exact ⟨noLoop (by kernel_rfl), tree⟩
  · cases h
theorem once_step (f : Nat) (q : PV) (s : ByteArray) (lo hi : Int) (c t : ByteArray) (al : PV) (b : List Bool) (h : Bool) (i : Nat) (hb : b.length = s.size + 1) (hs : s.size ≤ 64) (hc : c.size ≤ 1000000) (ht : t.size ≤ 1000000) (hk : c.size = 0 ∨ codesB c = true) (hi3 : i < b.length) :
    rdB brC Try.prog (ghb1 f) lp_once (LO_once f) Try.f62 3 [] [aP q, mB s h, aBx 4 [.pv (.int .i64 lo), .pv (.int .i64 hi), .pv (.str c), .pv (.str t), .pv al], aOwB 7 (firstV s c t b i), aP (pBL b), aI b.length, aI i] = some (.inl [aP q, mB s (h || (b[i] && (decide (c.size ≠ 0) && decide (i < s.size)))), aBx 4 [.pv (.int .i64 lo), .pv (.int .i64 hi), .pv (.str c), .pv (.str t), .pv al], aOwB 7 (firstV s c t b (i + 1)), aP (pBL b), aI b.length, aI ((i + 1 : Nat) : Int)]) := by
  have hn := len_size s
  have hi2 : i ≤ s.size := by omega
  have hF : ∀ k, (firstV s c t b k).length = s.data.toList.length + 1 := fun k => firstTo_len _ _ _ k
  have htr : tr b i ↔ b[i] = true := by unfold tr; rw [List.getElem?_eq_getElem hi3]; simp
  have same : (∀ j, b[i] = true → ¬ SimpR s.data.toList (.mk 0 0 c t []) i j) → firstV s c t b (i + 1) = firstV s c t b i := fun k => firstTo_same fun j hj => k j (htr.1 hj)
  have setF : ∀ k, k < s.data.toList.length + 1 → (firstV s c t b i).length = ((firstV s c t b i).set k true).length := fun k _ => by rw [List.length_set]
  have w2 : IntKind.wrap .i64 ((i : Int) + (t.size : Int)) = ((i + t.size : Nat) : Int) := by rw [wrapI (by omega) (by omega)]; omega
  have e1 : (!(ByteArray.toList c == [])) = decide (c.size ≠ 0) := by rw [emptyB]; by_cases k : c.size = 0 <;> simp [k]
  have e2 : (!(ByteArray.toList t == [])) = decide (t.size ≠ 0) := by rw [emptyB]; by_cases k : t.size = 0 <;> simp [k]
  have e3 : ((s.size : Int)).toNat = s.size := by simp
  have cells : ∀ k, k < s.data.toList.length + 1 → List.take (k * 1) (List.map PV.bool (firstV s c t b i)) ++ [PV.bool true] ++ List.drop (k * 1 + 1) (List.map PV.bool (firstV s c t b i)) = ((firstV s c t b i).set k true).map PV.bool := fun k hk => set_cells _ (by rw [hF]; exact hk)
  have b1 : ∀ k, k < s.data.toList.length + 1 → Nat.ble (k * 1 + 1) (List.length (List.map PV.bool (firstV s c t b i))) = true := fun k hk => by rw [List.length_map, hF]; exact Nat.ble_eq_true_of_le (by omega)
  have b2 : ∀ k : Nat, k < s.data.toList.length + 1 → decide ((k : Int) < ((firstV s c t b i).length : Int)) = true := fun k hk => by rw [hF]; exact dT (by omega)
  cases h with

  | false =>
    have tree := r_once_eq f q s lo hi c t al (firstV s c t b i) b b.length i
    simp (disch := first | omega | rfl) only [drop_bools b i hi3, e1, e2, w2, Int.toNat_natCast, e3, extract_list s i hi2, decide_true, dT, List.length_cons, List.headD_cons, PV.isBool, PV.asBool, blt0, wrap1, Bool.and_true, Bool.true_and, Nat.beq_refl] at tree
    cases hbi : b[i] with
    | false =>
      rw [hbi] at tree
      rw [same (fun j k => by rw [hbi] at k; cases k), Bool.false_and, Bool.or_false]
      exact tree
    | true =>
      rw [hbi] at tree
      by_cases hcs : c.size = 0
      · rw [dF (show ¬ c.size ≠ 0 from fun k => k hcs)] at tree ⊢
        by_cases hts : t.size = 0
        · rw [dF (show ¬ t.size ≠ 0 from fun k => k hts)] at tree
          rw [same (fun j _ => simp_none hcs hts)]
          exact tree
        · rw [dT hts] at tree
          cases hp : Lib.hasPrefix (s.data.toList.drop i) t.data.toList with
          | false =>
            rw [hp] at tree
            rw [same (fun j _ k => by rw [simp_text hcs hts (by omega), hp] at k; cases k.1)]
            exact tree
          | true =>
            have hle := (List.isPrefixOf_iff_prefix.1 (show t.data.toList.isPrefixOf (s.data.toList.drop i) = true from hp)).length_le
            rw [List.length_drop, len_size t] at hle
            rw [hp] at tree
            rw [b2 (i + t.size) (by omega), b1 (i + t.size) (by omega), cells (i + t.size) (by omega)] at tree
            rw [show firstV s c t b (i + 1) = (firstV s c t b i).set (i + t.size) true from firstTo_set (by omega) (htr.2 hbi) fun j => by rw [simp_text hcs hts (by omega), hp]; exact ⟨fun k => k.2, fun k => ⟨rfl, k⟩⟩]
            rw [show aOwB 7 ((firstV s c t b i).set (i + t.size) true) = ((.own 28672, some (.lst 1 4 (firstV s c t b i).length (((firstV s c t b i).set (i + t.size) true).map PV.bool) true)) : AV × Option Ob) by unfold aOwB; rw [List.length_set]]
            exact tree
      · rw [dT (show c.size ≠ 0 from hcs)] at tree ⊢
        have hcb : codesB c = true := hk.resolve_left hcs
        by_cases his : i < s.size
        · have hil : i < s.data.toList.length := by omega
          rw [dT (show (i : Int) < (s.size : Int) by omega), codes_hit c s i hcb hil] at tree
          rw [dT his]
          cases hh : c.data.toList.any (fun k => inCodeB k s.data.toList[i]) with
          | false =>
            rw [hh] at tree
            rw [same (fun j _ k => by
              obtain ⟨⟨x, hx, k⟩, _⟩ := (simp_codes hcs).1 k
              rw [List.getElem?_eq_getElem hil, Option.some.injEq] at hx
              subst hx
              rw [hh] at k
              cases k)]
            exact tree
          | true =>
            rw [hh] at tree
            rw [b2 (i + 1) (by omega), b1 (i + 1) (by omega), cells (i + 1) (by omega)] at tree
            rw [show firstV s c t b (i + 1) = (firstV s c t b i).set (i + 1) true from firstTo_set (by omega) (htr.2 hbi) fun j => by
              rw [simp_codes hcs]
              exact ⟨fun k => k.2, fun k => ⟨⟨_, List.getElem?_eq_getElem hil, hh⟩, k⟩⟩]
            rw [show aOwB 7 ((firstV s c t b i).set (i + 1) true) = ((.own 28672, some (.lst 1 4 (firstV s c t b i).length (((firstV s c t b i).set (i + 1) true).map PV.bool) true)) : AV × Option Ob) by unfold aOwB; rw [List.length_set]]
            exact tree
        · rw [dF (show ¬ (i : Int) < (s.size : Int) by omega)] at tree
          rw [dF his]
          rw [same (fun j _ k => by
            obtain ⟨⟨x, hx, _⟩, _⟩ := (simp_codes hcs).1 k
            have := (List.getElem?_eq_some_iff.1 hx).1
            omega)]
          exact tree

  | true =>
    have tree := r_onceR_eq f q s lo hi c t al (firstV s c t b i) b b.length i
    simp (disch := first | omega | rfl) only [drop_bools b i hi3, e1, e2, w2, Int.toNat_natCast, e3, extract_list s i hi2, decide_true, dT, List.length_cons, List.headD_cons, PV.isBool, PV.asBool, blt0, wrap1, Bool.and_true, Bool.true_and, Nat.beq_refl] at tree
    cases hbi : b[i] with
    | false =>
      rw [hbi] at tree
      rw [same (fun j k => by rw [hbi] at k; cases k), Bool.false_and, Bool.or_false]
      exact tree
    | true =>
      rw [hbi] at tree
      by_cases hcs : c.size = 0
      · rw [dF (show ¬ c.size ≠ 0 from fun k => k hcs)] at tree ⊢
        by_cases hts : t.size = 0
        · rw [dF (show ¬ t.size ≠ 0 from fun k => k hts)] at tree
          rw [same (fun j _ => simp_none hcs hts)]
          exact tree
        · rw [dT hts] at tree
          cases hp : Lib.hasPrefix (s.data.toList.drop i) t.data.toList with
          | false =>
            rw [hp] at tree
            rw [same (fun j _ k => by rw [simp_text hcs hts (by omega), hp] at k; cases k.1)]
            exact tree
          | true =>
            have hle := (List.isPrefixOf_iff_prefix.1 (show t.data.toList.isPrefixOf (s.data.toList.drop i) = true from hp)).length_le
            rw [List.length_drop, len_size t] at hle
            rw [hp] at tree
            rw [b2 (i + t.size) (by omega), b1 (i + t.size) (by omega), cells (i + t.size) (by omega)] at tree
            rw [show firstV s c t b (i + 1) = (firstV s c t b i).set (i + t.size) true from firstTo_set (by omega) (htr.2 hbi) fun j => by rw [simp_text hcs hts (by omega), hp]; exact ⟨fun k => k.2, fun k => ⟨rfl, k⟩⟩]
            rw [show aOwB 7 ((firstV s c t b i).set (i + t.size) true) = ((.own 28672, some (.lst 1 4 (firstV s c t b i).length (((firstV s c t b i).set (i + t.size) true).map PV.bool) true)) : AV × Option Ob) by unfold aOwB; rw [List.length_set]]
            exact tree
      · rw [dT (show c.size ≠ 0 from hcs)] at tree ⊢
        have hcb : codesB c = true := hk.resolve_left hcs
        by_cases his : i < s.size
        · have hil : i < s.data.toList.length := by omega
          rw [dT (show (i : Int) < (s.size : Int) by omega), codes_hit c s i hcb hil] at tree
          rw [dT his]
          cases hh : c.data.toList.any (fun k => inCodeB k s.data.toList[i]) with
          | false =>
            rw [hh] at tree
            rw [same (fun j _ k => by
              obtain ⟨⟨x, hx, k⟩, _⟩ := (simp_codes hcs).1 k
              rw [List.getElem?_eq_getElem hil, Option.some.injEq] at hx
              subst hx
              rw [hh] at k
              cases k)]
            exact tree
          | true =>
            rw [hh] at tree
            rw [b2 (i + 1) (by omega), b1 (i + 1) (by omega), cells (i + 1) (by omega)] at tree
            rw [show firstV s c t b (i + 1) = (firstV s c t b i).set (i + 1) true from firstTo_set (by omega) (htr.2 hbi) fun j => by
              rw [simp_codes hcs]
              exact ⟨fun k => k.2, fun k => ⟨⟨_, List.getElem?_eq_getElem hil, hh⟩, k⟩⟩]
            rw [show aOwB 7 ((firstV s c t b i).set (i + 1) true) = ((.own 28672, some (.lst 1 4 (firstV s c t b i).length (((firstV s c t b i).set (i + 1) true).map PV.bool) true)) : AV × Option Ob) by unfold aOwB; rw [List.length_set]]
            exact tree
        · rw [dF (show ¬ (i : Int) < (s.size : Int) by omega)] at tree
          rw [dF his]
          rw [same (fun j _ k => by
            obtain ⟨⟨x, hx, _⟩, _⟩ := (simp_codes hcs).1 k
            have := (List.getElem?_eq_some_iff.1 hx).1
            omega)]
          exact tree
theorem hit_end (b : List Bool) (n : Nat) (c : ByteArray) (i : Nat) (h : b.length ≤ i) : hitB b n c i = false := by
  unfold hitB
  rw [List.drop_eq_nil_of_le (by rw [List.length_take]; omega), List.any_nil, Bool.and_false]
theorem hit_succ (b : List Bool) (n : Nat) (c : ByteArray) (i : Nat) (hi : i < b.length) (h : Bool) : (h || hitB b n c i) = ((h || (b[i] && (decide (c.size ≠ 0) && decide (i < n)))) || hitB b n c (i + 1)) := by
  unfold hitB
  by_cases hn : i < n
  · have hl : i < (b.take n).length := by rw [List.length_take]; omega
    rw [List.drop_eq_getElem_cons hl, List.any_cons, List.getElem_take, dT hn, Bool.and_true]
    cases h <;> cases b[i] <;> cases decide (c.size ≠ 0) <;> simp
  · rw [List.drop_eq_nil_of_le (by rw [List.length_take]; omega), List.drop_eq_nil_of_le (by rw [List.length_take]; omega), dF hn, Bool.and_false, Bool.and_false, Bool.or_false]
theorem once_loop (f : Nat) (q : PV) (s : ByteArray) (lo hi : Int) (c t : ByteArray) (al : PV) (b : List Bool) (hb : b.length = s.size + 1) (hs : s.size ≤ 64) (hc : c.size ≤ 1000000) (ht : t.size ≤ 1000000) (hk : c.size = 0 ∨ codesB c = true) : ∀ (m i : Nat) (h : Bool), m + i = b.length →
    LoopsTo (rdB brC Try.prog (ghb1 f) lp_once (LO_once f) Try.f62 3 []) [aP q, mB s h, aBx 4 [.pv (.int .i64 lo), .pv (.int .i64 hi), .pv (.str c), .pv (.str t), .pv al], aOwB 7 (firstV s c t b i), aP (pBL b), aI b.length, aI i] (.exit 0, [aP q, mB s (h || hitB b s.size c i), aBx 4 [.pv (.int .i64 lo), .pv (.int .i64 hi), .pv (.str c), .pv (.str t), .pv al], aOwB 7 (firstV s c t b b.length)]) := by
  intro m
  induction m with
  | zero =>
    intro i h hm
    obtain rfl : i = b.length := by omega
    rw [hit_end b s.size c b.length (Nat.le_refl _), Bool.or_false]
    cases h with
    | false =>
      have tree := r_once_eq f q s lo hi c t al (firstV s c t b b.length) b b.length b.length
      rw [dF (show ¬ ((b.length : Int) < (b.length : Int)) by omega)] at tree
      exact .done _ _ tree
    | true =>
      have tree := r_onceR_eq f q s lo hi c t al (firstV s c t b b.length) b b.length b.length
      rw [dF (show ¬ ((b.length : Int) < (b.length : Int)) by omega)] at tree
      exact .done _ _ tree
  | succ m ih =>
    intro i h hm
    have hi3 : i < b.length := by omega
    rw [hit_succ b s.size c i hi3 h]
    exact .step _ _ _ (once_step f q s lo hi c t al b h i hb hs hc ht hk hi3) (ih (i + 1) _ (by omega))
theorem altsB_at : ∀ {f : Nat} {l : List (List PatT)}, altsB f l = true → ∀ {i : Nat} (hi : i < l.length), itemsB f l[i] = true
  | _, [], _, i, hi => by cases hi
  | f, x :: r, h, 0, hi => by
    unfold altsB at h
    rw [Bool.and_eq_true] at h
    exact h.1
  | f, x :: r, h, i + 1, hi => by
    unfold altsB at h
    rw [Bool.and_eq_true] at h
    exact altsB_at h.2 (by simpa using hi)
theorem altsB_nil (f : Nat) : altsB f [] = true := by unfold altsB; rfl
theorem item_facts {f : Nat} {p : PatT} (h : itemB f p = true) : (0 ≤ p.low ∧ p.low ≤ 99) ∧ (p.high = -1 ∨ (p.low ≤ p.high ∧ p.high ≤ 99)) ∧ (p.codes.size = 0 ∨ codesB p.codes = true) ∧ altsB (f - 1) p.alts = true ∧ (0 < f ∨ p.alts = []) := by
  rw [itemB_eq] at h
  unfold rngI at h
  simp only [Bool.and_eq_true, Bool.or_eq_true, decide_eq_true_eq] at h
  obtain ⟨⟨h1, h2⟩, h3⟩ := h
  refine ⟨h1, h2, ?_⟩
  split at h3
  · simp only [Bool.and_eq_true, decide_eq_true_eq] at h3
    have h4 := List.length_eq_zero_iff.1 h3.2
    exact ⟨.inr h3.1.1, by rw [h4]; exact altsB_nil _, .inr h4⟩
  · rename_i hc
    have hc : p.codes.size = 0 := Decidable.of_not_not hc
    split at h3
    · simp only [Bool.and_eq_true, decide_eq_true_eq] at h3
      have h4 := List.length_eq_zero_iff.1 h3.2
      exact ⟨.inl hc, by rw [h4]; exact altsB_nil _, .inr h4⟩
    · simp only [Bool.and_eq_true, decide_eq_true_eq] at h3
      exact ⟨.inl hc, h3.2, .inl h3.1.2⟩
theorem flat_rep (n : Nat) : (List.replicate n [PV.bool false]).flatten = (List.replicate n false).map PV.bool := by
  induction n with
  | zero => rfl
  | succ n ih => rw [List.replicate_succ, List.replicate_succ, List.flatten_cons, List.map_cons, ih]; rfl

theorem once_altA (f : Nat) (b : List Bool) (s : ByteArray) (a : List Bool) (al : List (List PatT)) (hb : b.length = s.size + 1) (hs : s.size ≤ 64) (hal : altsB (f - 1) al = true) (hf : 0 < f ∨ al = []) (ha : a.length = s.size + 1) (h_al : shAls al) : ∀ (m k : Nat), m + k = al.length →
    LoopsTo (rdB brC Try.prog (ghb1 f) lp_once (LO_once f) Try.f62 14 []) [aP (pBL b), aBx 3 [.pv (.str s)], aOwB 7 (orL a (altV s (al.take k) b)), aP (pAl al), aI al.length, aI k] (.exit 3, [aOwB 7 (orL a (altV s al b))]) := by
  have hn := len_size s
  have hbs : shBL b := by unfold shBL; omega
  have hO : ∀ k, (orL a (altV s (al.take k) b)).length = s.size + 1 := fun k => by rw [orL_len (by rw [altU_len]; omega), ha]
  have hOs : ∀ k, shBL (orL a (altV s (al.take k) b)) := fun k => by unfold shBL; rw [hO]; omega
  intro m
  induction m with
  | zero =>
    intro k hm
    obtain rfl : k = al.length := by omega
    have tree := r_onceA_eq f b s (orL a (altV s (al.take al.length) b)) al al.length al.length
    rw [dF (show ¬ ((al.length : Int) < (al.length : Int)) by omega)] at tree
    rw [List.take_length] at tree ⊢
    exact .done _ _ tree
  | succ m ih =>
    intro k hm
    have hk : k < al.length := by omega
    have h0 : 0 < f := hf.resolve_right fun h => by rw [h] at hk; cases hk
    have ih' := ih (k + 1) (by omega)
    have hsp := shAls_at h_al hk
    have hit := altsB_at hal hk
    have hA : shBL (allV s al[k] b) := by unfold shBL; rw [allL_len]; omega
    have hle := h_al.1
    have hlA : (allV s al[k] b).length = s.size + 1 := by rw [allL_len, hn]
    have hOA : (orL a (altV s (al.take k) b)).length = (allV s al[k] b).length := by rw [hO, hlA]
    have tree := r_onceA_eq f b s (orL a (altV s (al.take k) b)) al al.length k
    simp (disch := first | omega | rfl) only [drop_encAl al k hk, isPt, isPt_mk hsp, asPt, asPt_mk, isBL, isBL_mk hbs, isBL_mk (hOs k), isBL_mk hA, asBL, asBL_mk, hit, dT hOA, dT h0, decide_true, dT, Int.toNat_natCast, List.headD_cons, List.length_cons, blt0, wrap1, PV.isSl, PV.slN, PV.slL, Nat.beq_refl, Bool.and_true, Bool.true_and] at tree
    rw [show orL (orL a (altV s (al.take k) b)) (allV s al[k] b) = orL a (altV s (al.take (k + 1)) b) from altU_succ (by omega) hk, show (orL a (altV s (al.take k) b)).length = (orL a (altV s (al.take (k + 1)) b)).length by rw [hO, hO]] at tree
    exact .step _ _ _ tree ih'

theorem once_altB (f : Nat) (b : List Bool) (s : ByteArray) (a : List Bool) (al : List (List PatT)) (hb : b.length = s.size + 1) (hs : s.size ≤ 64) (hal : altsB (f - 1) al = true) (hf : 0 < f ∨ al = []) (ha : a.length = s.size + 1) (h_al : shAls al) : ∀ (m k : Nat), m + k = al.length →
    LoopsTo (rdB brC Try.prog (ghb1 f) lp_once (LO_once f) Try.f62 14 []) [aP (pBL b), aRo 3 [.str s], aOwB 7 (orL a (altV s (al.take k) b)), aP (pAl al), aI al.length, aI k] (.exit 3, [aOwB 7 (orL a (altV s al b))]) := by
  have hn := len_size s
  have hbs : shBL b := by unfold shBL; omega
  have hO : ∀ k, (orL a (altV s (al.take k) b)).length = s.size + 1 := fun k => by rw [orL_len (by rw [altU_len]; omega), ha]
  have hOs : ∀ k, shBL (orL a (altV s (al.take k) b)) := fun k => by unfold shBL; rw [hO]; omega
  intro m
  induction m with
  | zero =>
    intro k hm
    obtain rfl : k = al.length := by omega
    have tree := r_onceB_eq f b s (orL a (altV s (al.take al.length) b)) al al.length al.length
    rw [dF (show ¬ ((al.length : Int) < (al.length : Int)) by omega)] at tree
    rw [List.take_length] at tree ⊢
    exact .done _ _ tree
  | succ m ih =>
    intro k hm
    have hk : k < al.length := by omega
    have h0 : 0 < f := hf.resolve_right fun h => by rw [h] at hk; cases hk
    have ih' := ih (k + 1) (by omega)
    have hsp := shAls_at h_al hk
    have hit := altsB_at hal hk
    have hA : shBL (allV s al[k] b) := by unfold shBL; rw [allL_len]; omega
    have hle := h_al.1
    have hlA : (allV s al[k] b).length = s.size + 1 := by rw [allL_len, hn]
    have hOA : (orL a (altV s (al.take k) b)).length = (allV s al[k] b).length := by rw [hO, hlA]
    have tree := r_onceB_eq f b s (orL a (altV s (al.take k) b)) al al.length k
    simp (disch := first | omega | rfl) only [drop_encAl al k hk, isPt, isPt_mk hsp, asPt, asPt_mk, isBL, isBL_mk hbs, isBL_mk (hOs k), isBL_mk hA, asBL, asBL_mk, hit, dT hOA, dT h0, decide_true, dT, Int.toNat_natCast, List.headD_cons, List.length_cons, blt0, wrap1, PV.isSl, PV.slN, PV.slL, Nat.beq_refl, Bool.and_true, Bool.true_and] at tree
    rw [show orL (orL a (altV s (al.take k) b)) (allV s al[k] b) = orL a (altV s (al.take (k + 1)) b) from altU_succ (by omega) hk, show (orL a (altV s (al.take k) b)).length = (orL a (altV s (al.take (k + 1)) b)).length by rw [hO, hO]] at tree
    exact .step _ _ _ tree ih'
theorem loops_once (f : Nat) (hX : EntryOk Try.prog 36 (E_allX f)) : ∀ b ∈ loopsIn (bodyOf Try.f62), LoopOk Try.prog (tabL (ghb1 f)) (OL lp_once) Try.f62.ntmps (pbOf []) (LO_once f) b := by
  refine manyLoops [3, 14] (by kernel_rfl) (fun k hk => by
    simp only [List.mem_cons, List.not_mem_nil, or_false] at hk
    rcases hk with rfl | rfl <;> kernel_rfl) fun k hk => ?_
  simp only [List.mem_cons, List.not_mem_nil, or_false] at hk
  rcases hk with rfl | rfl
  · refine ⟨noLoop (by kernel_rfl), ?_⟩
    intro ls e ls' hl
    replace hl : pickA (LO_once_3 f ls) = some (e, ls') := hl
    unfold LO_once_3 at hl
    split at hl
    · rename_i q x3 s x4 lo hi c t al x7 e_a n_a l_a p_b n i
      rcases pick2 hl with ⟨hc, he⟩ | ⟨hn, hc, he⟩
      · cases he
        obtain ⟨hc, k14⟩ := andE hc
        obtain ⟨hc, k13⟩ := andE hc
        obtain ⟨hc, k12⟩ := andE hc
        obtain ⟨hc, k11⟩ := andE hc
        obtain ⟨hc, k10⟩ := andE hc
        obtain ⟨hc, k9⟩ := andE hc
        obtain ⟨hc, k8⟩ := andE hc
        obtain ⟨hc, k7⟩ := andE hc
        obtain ⟨hc, k6⟩ := andE hc
        obtain ⟨hc, k5⟩ := andE hc
        obtain ⟨hc, k4⟩ := andE hc
        obtain ⟨hc, k3⟩ := andE hc
        obtain ⟨hc, k2⟩ := andE hc
        obtain ⟨hc, k1⟩ := andE hc
        have k0 := hc
        obtain ⟨a, q_a, h_a⟩ := isE_inv k0
        injection q_a with qa_a qb_a
        subst qa_a
        subst qb_a
        have e_a : asBL (.sl _ _) = a := asBL_mk a
        have i_a := isBL_mk h_a
        obtain ⟨b, rfl, h_b⟩ := isE_inv k1
        have e_b : asBL (pBL b) = b := asBL_mk b
        have i_b := isBL_mk h_b
        obtain rfl := Nat.eq_of_beq_eq_true k2
        obtain rfl := Nat.eq_of_beq_eq_true k3
        obtain rfl := Nat.eq_of_beq_eq_true k4
        obtain rfl := Nat.eq_of_beq_eq_true k5
        try simp only [e_a, e_b] at k6
        obtain rfl := eq_of_beq k6
        try simp only [e_a, e_b] at k7
        obtain rfl := eq_of_beq k7
        try simp only [e_a, e_b] at k8
        have c0 := of_decide_eq_true k8
        try simp only [e_a, e_b] at k9
        have c1 := of_decide_eq_true k9
        try simp only [e_a, e_b] at k10
        have c2 := of_decide_eq_true k10
        try simp only [e_a, e_b] at k11
        have c3 := of_decide_eq_true k11
        try simp only [e_a, e_b] at k12
        have c4 := of_decide_eq_true k12
        try simp only [e_a, e_b] at k13
        have c5 := holds_inv k13
        try simp only [e_a, e_b] at k14
        have c6 := k14
        try simp only [e_a, e_b]
        subst c5
        have := once_loop f q s lo hi c t al b c1 c2 c3 c4 c0 b.length 0 false (by omega)
        rw [c6] at this
        exact this
      · cases he
        obtain ⟨hc, k14⟩ := andE hc
        obtain ⟨hc, k13⟩ := andE hc
        obtain ⟨hc, k12⟩ := andE hc
        obtain ⟨hc, k11⟩ := andE hc
        obtain ⟨hc, k10⟩ := andE hc
        obtain ⟨hc, k9⟩ := andE hc
        obtain ⟨hc, k8⟩ := andE hc
        obtain ⟨hc, k7⟩ := andE hc
        obtain ⟨hc, k6⟩ := andE hc
        obtain ⟨hc, k5⟩ := andE hc
        obtain ⟨hc, k4⟩ := andE hc
        obtain ⟨hc, k3⟩ := andE hc
        obtain ⟨hc, k2⟩ := andE hc
        obtain ⟨hc, k1⟩ := andE hc
        have k0 := hc
        obtain ⟨a, q_a, h_a⟩ := isE_inv k0
        injection q_a with qa_a qb_a
        subst qa_a
        subst qb_a
        have e_a : asBL (.sl _ _) = a := asBL_mk a
        have i_a := isBL_mk h_a
        obtain ⟨b, rfl, h_b⟩ := isE_inv k1
        have e_b : asBL (pBL b) = b := asBL_mk b
        have i_b := isBL_mk h_b
        obtain rfl := Nat.eq_of_beq_eq_true k2
        obtain rfl := Nat.eq_of_beq_eq_true k3
        obtain rfl := Nat.eq_of_beq_eq_true k4
        obtain rfl := Nat.eq_of_beq_eq_true k5
        try simp only [e_a, e_b] at k6
        obtain rfl := eq_of_beq k6
        try simp only [e_a, e_b] at k7
        obtain rfl := eq_of_beq k7
        try simp only [e_a, e_b] at k8
        have c0 := of_decide_eq_true k8
        try simp only [e_a, e_b] at k9
        have c1 := of_decide_eq_true k9
        try simp only [e_a, e_b] at k10
        have c2 := of_decide_eq_true k10
        try simp only [e_a, e_b] at k11
        have c3 := of_decide_eq_true k11
        try simp only [e_a, e_b] at k12
        have c4 := of_decide_eq_true k12
        try simp only [e_a, e_b] at k13
        have c5 := holds_inv k13
        try simp only [e_a, e_b] at k14
        have c6 := k14
        try simp only [e_a, e_b]
        subst c5
        have c6 : hitB b s.size c 0 = false := by simpa using c6
        have := once_loop f q s lo hi c t al b c1 c2 c3 c4 c0 b.length 0 false (by omega)
        rw [c6] at this
        exact this
    · cases hl
  · refine ⟨noLoop (by kernel_rfl), ?_⟩
    intro ls e ls' hl
    replace hl : pickA (LO_once_14 f ls) = some (e, ls') := hl
    unfold LO_once_14 at hl
    split at hl
    · rename_i p_b x3 s x7 e_a n_a l_a p_al n k
      obtain ⟨hc, he⟩ := pick1 hl
      cases he
      obtain ⟨hc, k12⟩ := andE hc
      obtain ⟨hc, k11⟩ := andE hc
      obtain ⟨hc, k10⟩ := andE hc
      obtain ⟨hc, k9⟩ := andE hc
      obtain ⟨hc, k8⟩ := andE hc
      obtain ⟨hc, k7⟩ := andE hc
      obtain ⟨hc, k6⟩ := andE hc
      obtain ⟨hc, k5⟩ := andE hc
      obtain ⟨hc, k4⟩ := andE hc
      obtain ⟨hc, k3⟩ := andE hc
      obtain ⟨hc, k2⟩ := andE hc
      obtain ⟨hc, k1⟩ := andE hc
      have k0 := hc
      obtain ⟨b, rfl, h_b⟩ := isE_inv k0
      have e_b : asBL (pBL b) = b := asBL_mk b
      have i_b := isBL_mk h_b
      obtain ⟨a, q_a, h_a⟩ := isE_inv k1
      injection q_a with qa_a qb_a
      subst qa_a
      subst qb_a
      have e_a : asBL (.sl _ _) = a := asBL_mk a
      have i_a := isBL_mk h_a
      obtain ⟨al, rfl, h_al⟩ := isE_inv k2
      have e_al : asAl (pAl al) = al := asAl_mk al
      have i_al := isAl_mk h_al
      obtain rfl := Nat.eq_of_beq_eq_true k3
      obtain rfl := Nat.eq_of_beq_eq_true k4
      obtain rfl := Nat.eq_of_beq_eq_true k5
      try simp only [e_b, e_a, e_al] at k6
      obtain rfl := eq_of_beq k6
      try simp only [e_b, e_a, e_al] at k7
      obtain rfl := eq_of_beq k7
      try simp only [e_b, e_a, e_al] at k8
      have c0 := of_decide_eq_true k8
      try simp only [e_b, e_a, e_al] at k9
      have c1 := of_decide_eq_true k9
      try simp only [e_b, e_a, e_al] at k10
      have c2 := k10
      try simp only [e_b, e_a, e_al] at k11
      have c3 := of_decide_eq_true k11
      try simp only [e_b, e_a, e_al] at k12
      have c4 := of_decide_eq_true k12
      try simp only [e_b, e_a, e_al]
      have := once_altA f b s a al c0 c1 c2 c3 c4 h_al al.length 0 (by omega)
      rw [show orL a (altV s (al.take 0) b) = a from altU_zero (by rw [len_size]; exact c4)] at this
      exact this
    · rename_i p_b x3 s x7 e_a n_a l_a p_al n k
      obtain ⟨hc, he⟩ := pick1 hl
      cases he
      obtain ⟨hc, k12⟩ := andE hc
      obtain ⟨hc, k11⟩ := andE hc
      obtain ⟨hc, k10⟩ := andE hc
      obtain ⟨hc, k9⟩ := andE hc
      obtain ⟨hc, k8⟩ := andE hc
      obtain ⟨hc, k7⟩ := andE hc
      obtain ⟨hc, k6⟩ := andE hc
      obtain ⟨hc, k5⟩ := andE hc
      obtain ⟨hc, k4⟩ := andE hc
      obtain ⟨hc, k3⟩ := andE hc
      obtain ⟨hc, k2⟩ := andE hc
      obtain ⟨hc, k1⟩ := andE hc
      have k0 := hc
      obtain ⟨b, rfl, h_b⟩ := isE_inv k0
      have e_b : asBL (pBL b) = b := asBL_mk b
      have i_b := isBL_mk h_b
      obtain ⟨a, q_a, h_a⟩ := isE_inv k1
      injection q_a with qa_a qb_a
      subst qa_a
      subst qb_a
      have e_a : asBL (.sl _ _) = a := asBL_mk a
      have i_a := isBL_mk h_a
      obtain ⟨al, rfl, h_al⟩ := isE_inv k2
      have e_al : asAl (pAl al) = al := asAl_mk al
      have i_al := isAl_mk h_al
      obtain rfl := Nat.eq_of_beq_eq_true k3
      obtain rfl := Nat.eq_of_beq_eq_true k4
      obtain rfl := Nat.eq_of_beq_eq_true k5
      try simp only [e_b, e_a, e_al] at k6
      obtain rfl := eq_of_beq k6
      try simp only [e_b, e_a, e_al] at k7
      obtain rfl := eq_of_beq k7
      try simp only [e_b, e_a, e_al] at k8
      have c0 := of_decide_eq_true k8
      try simp only [e_b, e_a, e_al] at k9
      have c1 := of_decide_eq_true k9
      try simp only [e_b, e_a, e_al] at k10
      have c2 := k10
      try simp only [e_b, e_a, e_al] at k11
      have c3 := of_decide_eq_true k11
      try simp only [e_b, e_a, e_al] at k12
      have c4 := of_decide_eq_true k12
      try simp only [e_b, e_a, e_al]
      have := once_altB f b s a al c0 c1 c2 c3 c4 h_al al.length 0 (by omega)
      rw [show orL a (altV s (al.take 0) b) = a from altU_zero (by rw [len_size]; exact c4)] at this
      exact this
    · cases hl
theorem ok_once (f : Nat) (hX : EntryOk Try.prog 36 (E_allX f)) : EntryOk Try.prog 62 (E_once f) := entry_of mix (ok_ghb1 f hX) (lp := lp_once) (LO := (LO_once f)) ⟨Try.func62, by kernel_rfl, by kernel_rfl⟩ (by kernel_rfl) fun ivs res bxs h => by
  unfold E_once at h
  split at h
  · rename_i s p_p p_b
    obtain ⟨hc, he⟩ := pick1 h
    cases he
    obtain ⟨hc, k5⟩ := andE hc
    obtain ⟨hc, k4⟩ := andE hc
    obtain ⟨hc, k3⟩ := andE hc
    obtain ⟨hc, k2⟩ := andE hc
    obtain ⟨hc, k1⟩ := andE hc
    have k0 := hc
    obtain ⟨p, rfl, h_p⟩ := isE_inv k0
    have e_p : asP1 (pP1 p) = p := asP1_mk p
    have i_p := isP1_mk h_p
    obtain ⟨b, rfl, h_b⟩ := isE_inv k1
    have e_b : asBL (pBL b) = b := asBL_mk b
    have i_b := isBL_mk h_b
    try simp only [e_p, e_b] at k2
    have c0 := of_decide_eq_true k2
    try simp only [e_p, e_b] at k3
    have c1 := k3
    try simp only [e_p, e_b] at k4
    have c2 := of_decide_eq_true k4
    try simp only [e_p, e_b] at k5
    have c3 := of_decide_eq_true k5
    try simp only [e_p, e_b]
    refine ⟨loops_once f hX, (q_once_eq f s p b).trans ?_⟩
    have hn := len_size s
    obtain ⟨g1, g2, g3, g4, g5⟩ := item_facts c1
    obtain ⟨_, _, z3, z4, z5⟩ := shP1_facts h_p
    have hbs : shBL b := h_b
    have hF0 : shBL (firstV s p.codes p.text b 0) := by unfold shBL; rw [firstTo_len]; omega
    have hF1 : shBL (firstV s p.codes p.text b b.length) := by unfold shBL; rw [firstTo_len]; omega
    have hF2 : (firstV s p.codes p.text b b.length).length = s.size + 1 := by rw [firstTo_len, hn]
    have z0 : PV.sl (Int.toNat (b.length : Int)) (List.flatten (List.replicate (Int.toNat (b.length : Int)) [PV.bool false])) = PV.sl (firstV s p.codes p.text b 0).length ((firstV s p.codes p.text b 0).map PV.bool) := by
      rw [flat_rep, Int.toNat_natCast, c2, show firstV s p.codes p.text b 0 = List.replicate (s.data.toList.length + 1) false from firstTo_zero _ _ _, List.length_replicate, hn]
    simp (disch := first | omega | rfl) only [z0, isBL, isBL_mk hbs, isBL_mk hF0, isBL_mk hF1, asBL, asBL_mk, isAl, isAl_mk z5, asAl, asAl_mk, holds_true, dT c2, dT c3, dT g3, dT z3, dT z4, dT g5, dT hF2, g4, decide_true, dT, Nat.beq_refl, beq_self_eq_true, Bool.and_true, Bool.true_and]
    rw [show orL (firstV s p.codes p.text b b.length) (altV s p.alts b) = onceV s p b from once_first (p := p) (by rw [hn]; exact c2)]
    cases hitB b s.size p.codes 0 <;> rfl
  · cases h
end Go.Proofs.Ytdegegajoccdjaa
