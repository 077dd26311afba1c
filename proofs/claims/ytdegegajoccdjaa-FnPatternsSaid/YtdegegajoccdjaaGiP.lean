/- Patterns: what an item, a list of items reach; by the reckoner: proofs. -/
import Derived.Test.YtdegegajoccdjaaGiT
namespace Go.Proofs.Ytdegegajoccdjaa
open Go.RowKit
set_option linter.unusedVariables false
set_option linter.unusedSimpArgs false
set_option maxRecDepth 100000

theorem ok_gib0 (f : Nat) (hX : EntryOk Try.prog 36 (E_allX f)) : EntriesOk Try.prog (gib0 f) := ⟨ok_once f hX, ok_CloB, ok_ghb0⟩
theorem item_loop3 (f : Nat) (s : ByteArray) (lo hi : Int) (c t : ByteArray) (al : List (List PatT)) (a : List Bool) (hf : f ≤ 3) (hit : itemB f (.mk lo hi c t al) = true) (ha : a.length = s.size + 1) (hs : s.size ≤ 64) (hp : shP1 (.mk lo hi c t al)) : ∀ (m j : Nat), m + j = lo.toNat →
    LoopsTo (rdB brC Try.prog (gib0 f) lp_item (LO_item f) Try.f53 3 []) [aBx 3 [.pv (.str s)], aBx 4 [.pv (.int .i64 lo), .pv (.int .i64 hi), .pv (.str c), .pv (.str t), .pv (pAl al)], aOwB 7 (nowV s (.mk lo hi c t al) a j), aI lo, aI j] (.exit 0, [aBx 3 [.pv (.str s)], aBx 4 [.pv (.int .i64 lo), .pv (.int .i64 hi), .pv (.str c), .pv (.str t), .pv (pAl al)], aOwB 7 (nowV s (.mk lo hi c t al) a lo.toNat)]) := by
  have hn := len_size s
  have ha' : a.length = s.data.toList.length + 1 := by omega
  obtain ⟨g1, g2, _, _, _⟩ := item_facts hit
  replace g1 : 0 ≤ lo ∧ lo ≤ 99 := g1
  replace g2 : hi = -1 ∨ (lo ≤ hi ∧ hi ≤ 99) := g2
  have iP : isE pP1 shP1 (.agg [.int .i64 lo, .int .i64 hi, .str c, .str t, .sl al.length (encAl al)]) = true := isP1_mk (x := .mk lo hi c t al) hp
  have eP : asE pP1 (.agg [.int .i64 lo, .int .i64 hi, .str c, .str t, .sl al.length (encAl al)]) = .mk lo hi c t al := asP1_mk (.mk lo hi c t al)
  have hNl : ∀ k, (nowV s (.mk lo hi c t al) a k).length = s.size + 1 := fun k => by rw [nowL_len, hn]
  have hN : ∀ k, shBL (nowV s (.mk lo hi c t al) a k) := fun k => by unfold shBL; rw [hNl]; omega
  have hRl : ∀ k, (reachV s (.mk lo hi c t al) a k).length = s.size + 1 := fun k => by rw [reachL_len, hn]
  have hR : ∀ k, shBL (reachV s (.mk lo hi c t al) a k) := fun k => by unfold shBL; rw [hRl]; omega
  have hO : ∀ k, onceV s (.mk lo hi c t al) (nowV s (.mk lo hi c t al) a k) = nowV s (.mk lo hi c t al) a (k + 1) := fun k => nowL_succ ha' k
  have hOR : ∀ k, orL (reachV s (.mk lo hi c t al) a k) (nowV s (.mk lo hi c t al) a (k + 1)) = reachV s (.mk lo hi c t al) a (k + 1) := fun k => reachL_succ ha' (Nat.zero_le _)
  have hRR : ∀ k, (reachV s (.mk lo hi c t al) a k).length = (reachV s (.mk lo hi c t al) a (k + 1)).length := fun k => by rw [hRl, hRl]

  intro m
  induction m with
  | zero =>
    intro j hm
    obtain rfl : j = lo.toNat := by omega
    have tree := r_item_eq f s lo hi c t al (nowV s (.mk lo hi c t al) a lo.toNat) lo lo.toNat
    rw [dF (show ¬ ((lo.toNat : Int) < lo) by omega)] at tree
    exact .done _ _ tree
  | succ m ih =>
    intro j hm
    have ih' := ih (j + 1) (by omega)
    have w1 : IntKind.wrap .i64 ((j : Int) + 1) = ((j + 1 : Nat) : Int) := by rw [wrapI (by omega) (by omega)]; omega
    have hRN : (reachV s (.mk lo hi c t al) a j).length = (nowV s (.mk lo hi c t al) a (j + 1)).length := by rw [hRl, hNl]
    have tree := r_item_eq f s lo hi c t al (nowV s (.mk lo hi c t al) a j) lo j
    simp (disch := first | omega | rfl) only [isP1, iP, asP1, eP, isBL, isBL_mk (hN j), isBL_mk (hN (j + 1)), isBL_mk (hR j), asBL, asBL_mk, hO j, hit, dT hf, dT (hNl j), dT hs, dT hRN, decide_true, dT, Int.toNat_natCast, Nat.beq_refl, wrap1, w1, Bool.and_true, Bool.true_and] at tree
    exact .step _ _ _ tree ih'
theorem item_loop8a (f : Nat) (s : ByteArray) (lo hi : Int) (c t : ByteArray) (al : List (List PatT)) (a : List Bool) (hf : f ≤ 3) (hit : itemB f (.mk lo hi c t al) = true) (ha : a.length = s.size + 1) (hs : s.size ≤ 64) (hp : shP1 (.mk lo hi c t al)) (hhi : hi ≠ -1) : ∀ (m j : Nat), lo + j + m = hi →
    LoopsTo (rdB brC Try.prog (gib0 f) lp_item (LO_item f) Try.f53 8 []) [aBx 3 [.pv (.str s)], aBx 4 [.pv (.int .i64 lo), .pv (.int .i64 hi), .pv (.str c), .pv (.str t), .pv (pAl al)], aOwN 7 (nowV s (.mk lo hi c t al) a j), aOwB 8 (reachV s (.mk lo hi c t al) a j), aI (lo + j)] (.exit 2, [aOwB 8 (restV s (.mk lo hi c t al) a)]) := by
  have hn := len_size s
  have ha' : a.length = s.data.toList.length + 1 := by omega
  obtain ⟨g1, g2, _, _, _⟩ := item_facts hit
  replace g1 : 0 ≤ lo ∧ lo ≤ 99 := g1
  replace g2 : hi = -1 ∨ (lo ≤ hi ∧ hi ≤ 99) := g2
  have iP : isE pP1 shP1 (.agg [.int .i64 lo, .int .i64 hi, .str c, .str t, .sl al.length (encAl al)]) = true := isP1_mk (x := .mk lo hi c t al) hp
  have eP : asE pP1 (.agg [.int .i64 lo, .int .i64 hi, .str c, .str t, .sl al.length (encAl al)]) = .mk lo hi c t al := asP1_mk (.mk lo hi c t al)
  have hNl : ∀ k, (nowV s (.mk lo hi c t al) a k).length = s.size + 1 := fun k => by rw [nowL_len, hn]
  have hN : ∀ k, shBL (nowV s (.mk lo hi c t al) a k) := fun k => by unfold shBL; rw [hNl]; omega
  have hRl : ∀ k, (reachV s (.mk lo hi c t al) a k).length = s.size + 1 := fun k => by rw [reachL_len, hn]
  have hR : ∀ k, shBL (reachV s (.mk lo hi c t al) a k) := fun k => by unfold shBL; rw [hRl]; omega
  have hO : ∀ k, onceV s (.mk lo hi c t al) (nowV s (.mk lo hi c t al) a k) = nowV s (.mk lo hi c t al) a (k + 1) := fun k => nowL_succ ha' k
  have hOR : ∀ k, orL (reachV s (.mk lo hi c t al) a k) (nowV s (.mk lo hi c t al) a (k + 1)) = reachV s (.mk lo hi c t al) a (k + 1) := fun k => reachL_succ ha' (Nat.zero_le _)
  have hRR : ∀ k, (reachV s (.mk lo hi c t al) a k).length = (reachV s (.mk lo hi c t al) a (k + 1)).length := fun k => by rw [hRl, hRl]

  have e0 : (hi == -1) = false := by rw [beq_eq_false_iff_ne]; exact hhi
  intro m
  induction m with
  | zero =>
    intro j hm
    have tree := r_item2_eq f s lo hi c t al (nowV s (.mk lo hi c t al) a j) (reachV s (.mk lo hi c t al) a j) (lo + j)
    rw [dF (show ¬ (lo + (j : Int) < hi) by omega), e0, show reachV s (.mk lo hi c t al) a j = restV s (.mk lo hi c t al) a from rest_upto ha' hhi (by show lo + (j : Int) = hi; omega)] at tree
    rw [show reachV s (.mk lo hi c t al) a j = restV s (.mk lo hi c t al) a from rest_upto ha' hhi (by show lo + (j : Int) = hi; omega)]
    exact .done _ _ tree
  | succ m ih =>
    intro j hm
    have ih' := ih (j + 1) (by omega)
    have w1 : IntKind.wrap .i64 (lo + (j : Int) + 1) = lo + ((j + 1 : Nat) : Int) := by rw [wrapI (by omega) (by omega)]; omega
    have hRN : (reachV s (.mk lo hi c t al) a j).length = (nowV s (.mk lo hi c t al) a (j + 1)).length := by rw [hRl, hNl]
    have tree := r_item2_eq f s lo hi c t al (nowV s (.mk lo hi c t al) a j) (reachV s (.mk lo hi c t al) a j) (lo + j)
    simp (disch := first | omega | rfl) only [isP1, iP, asP1, eP, isBL, isBL_mk (hN j), isBL_mk (hN (j + 1)), isBL_mk (hR j), asBL, asBL_mk, hO j, hit, dT hf, dT (hNl j), dT hs, dT hRN, decide_true, dT, Int.toNat_natCast, Nat.beq_refl, wrap1, w1, Bool.and_true, Bool.true_and] at tree
    rw [e0, hOR j, hRR j] at tree
    refine .step _ _ _ (tree.trans ?_) ih'
    generalize moreB (reachV s (.mk lo hi c t al) a j) (nowV s (.mk lo hi c t al) a (j + 1)) = x
    cases x <;> rfl
theorem item_loop8b (f : Nat) (s : ByteArray) (lo hi : Int) (c t : ByteArray) (al : List (List PatT)) (a : List Bool) (hf : f ≤ 3) (hit : itemB f (.mk lo hi c t al) = true) (ha : a.length = s.size + 1) (hs : s.size ≤ 64) (hp : shP1 (.mk lo hi c t al)) (hhi : hi = -1) : ∀ (m j : Nat), s.size + 2 ≤ m + cntL (reachV s (.mk lo hi c t al) a j) → j ≤ cntL (reachV s (.mk lo hi c t al) a j) →
    LoopsTo (rdB brC Try.prog (gib0 f) lp_item (LO_item f) Try.f53 8 []) [aBx 3 [.pv (.str s)], aBx 4 [.pv (.int .i64 lo), .pv (.int .i64 hi), .pv (.str c), .pv (.str t), .pv (pAl al)], aOwN 7 (nowV s (.mk lo hi c t al) a j), aOwB 8 (reachV s (.mk lo hi c t al) a j), aI (lo + j)] (.exit 2, [aOwB 8 (restV s (.mk lo hi c t al) a)]) := by
  have hn := len_size s
  have ha' : a.length = s.data.toList.length + 1 := by omega
  obtain ⟨g1, g2, _, _, _⟩ := item_facts hit
  replace g1 : 0 ≤ lo ∧ lo ≤ 99 := g1
  replace g2 : hi = -1 ∨ (lo ≤ hi ∧ hi ≤ 99) := g2
  have iP : isE pP1 shP1 (.agg [.int .i64 lo, .int .i64 hi, .str c, .str t, .sl al.length (encAl al)]) = true := isP1_mk (x := .mk lo hi c t al) hp
  have eP : asE pP1 (.agg [.int .i64 lo, .int .i64 hi, .str c, .str t, .sl al.length (encAl al)]) = .mk lo hi c t al := asP1_mk (.mk lo hi c t al)
  have hNl : ∀ k, (nowV s (.mk lo hi c t al) a k).length = s.size + 1 := fun k => by rw [nowL_len, hn]
  have hN : ∀ k, shBL (nowV s (.mk lo hi c t al) a k) := fun k => by unfold shBL; rw [hNl]; omega
  have hRl : ∀ k, (reachV s (.mk lo hi c t al) a k).length = s.size + 1 := fun k => by rw [reachL_len, hn]
  have hR : ∀ k, shBL (reachV s (.mk lo hi c t al) a k) := fun k => by unfold shBL; rw [hRl]; omega
  have hO : ∀ k, onceV s (.mk lo hi c t al) (nowV s (.mk lo hi c t al) a k) = nowV s (.mk lo hi c t al) a (k + 1) := fun k => nowL_succ ha' k
  have hOR : ∀ k, orL (reachV s (.mk lo hi c t al) a k) (nowV s (.mk lo hi c t al) a (k + 1)) = reachV s (.mk lo hi c t al) a (k + 1) := fun k => reachL_succ ha' (Nat.zero_le _)
  have hRR : ∀ k, (reachV s (.mk lo hi c t al) a k).length = (reachV s (.mk lo hi c t al) a (k + 1)).length := fun k => by rw [hRl, hRl]

  have e0 : (hi == -1) = true := by rw [beq_iff_eq]; exact hhi
  have hC : ∀ k, cntL (reachV s (.mk lo hi c t al) a k) ≤ s.size + 1 := fun k => by have := cntL_le (reachV s (.mk lo hi c t al) a k); rw [hRl] at this; exact this
  intro m
  induction m with
  | zero =>
    intro j h1 h2
    have := hC j
    omega
  | succ m ih =>
    intro j h1 h2
    have hCj := hC j
    have w1 : IntKind.wrap .i64 (lo + (j : Int) + 1) = lo + ((j + 1 : Nat) : Int) := by rw [wrapI (by omega) (by omega)]; omega
    have hRN : (reachV s (.mk lo hi c t al) a j).length = (nowV s (.mk lo hi c t al) a (j + 1)).length := by rw [hRl, hNl]
    have tree := r_item2_eq f s lo hi c t al (nowV s (.mk lo hi c t al) a j) (reachV s (.mk lo hi c t al) a j) (lo + j)
    rw [dF (show ¬ (lo + (j : Int) < hi) by omega), e0] at tree
    simp (disch := first | omega | rfl) only [isP1, iP, asP1, eP, isBL, isBL_mk (hN j), isBL_mk (hN (j + 1)), isBL_mk (hR j), asBL, asBL_mk, hO j, hit, dT hf, dT (hNl j), dT hs, dT hRN, decide_true, dT, Int.toNat_natCast, Nat.beq_refl, wrap1, w1, Bool.and_true, Bool.true_and] at tree
    rw [hOR j] at tree
    cases hm : moreB (reachV s (.mk lo hi c t al) a j) (nowV s (.mk lo hi c t al) a (j + 1)) with
    | false =>
      rw [hm, hRR j, show reachV s (.mk lo hi c t al) a (j + 1) = restV s (.mk lo hi c t al) a from rest_all ha' hhi hm] at tree
      exact .done _ _ tree
    | true =>
      have h3 : cntL (reachV s (.mk lo hi c t al) a j) + 1 ≤ cntL (reachV s (.mk lo hi c t al) a (j + 1)) := reach_more ha' hm
      rw [hm, hRR j] at tree
      exact .step _ _ _ tree (ih (j + 1) (by omega) (by omega))
theorem PatT_eta (p : PatT) : PatT.mk p.low p.high p.codes p.text p.alts = p := by cases p; rfl
theorem itemsL_at : ∀ {f : Nat} {l : List PatT}, itemsL f l = true → ∀ {i : Nat} (hi : i < l.length), itemB f l[i] = true
  | _, [], _, i, hi => by cases hi
  | f, x :: r, h, 0, hi => by
    unfold itemsL at h
    rw [Bool.and_eq_true] at h
    exact h.1
  | f, x :: r, h, i + 1, hi => by
    unfold itemsL at h
    rw [Bool.and_eq_true] at h
    exact itemsL_at h.2 (by simpa using hi)
theorem loops_item (f : Nat) (hX : EntryOk Try.prog 36 (E_allX f)) : ∀ b ∈ loopsIn (bodyOf Try.f53), LoopOk Try.prog (tabL (gib0 f)) (OL lp_item) Try.f53.ntmps (pbOf []) (LO_item f) b := by
  refine manyLoops [3, 8] (by kernel_rfl) (fun k hk => by
    simp only [List.mem_cons, List.not_mem_nil, or_false] at hk
    rcases hk with rfl | rfl <;> kernel_rfl) fun k hk => ?_
  simp only [List.mem_cons, List.not_mem_nil, or_false] at hk
  rcases hk with rfl | rfl
  · refine ⟨noLoop (by kernel_rfl), ?_⟩
    intro ls e ls' hl
    replace hl : pickA (LO_item_3 f ls) = some (e, ls') := hl
    unfold LO_item_3 at hl
    split at hl
    · rename_i x3 s x4 lo hi c t p_al x7 e_a n_a l_a n i
      obtain ⟨hc, he⟩ := pick1 hl
      cases he
      obtain ⟨hc, k12⟩ := andE hc
      obtain ⟨hc, k11⟩ := andE hc
      obtain ⟨hc, k10⟩ := andE hc
      obtain ⟨hc, k9⟩ := andE hc
      obtain ⟨hc, k8⟩ := andE hc
      obtain ⟨hc, k7⟩ := andE hc
      obtain ⟨hc, k6⟩ := andE hc
      obtain ⟨hc, k5⟩ := andE hc
      obtain ⟨hc, k4⟩ := andE hc
      obtain ⟨hc, k3⟩ := andE hc
      obtain ⟨hc, k2⟩ := andE hc
      obtain ⟨hc, k1⟩ := andE hc
      have k0 := hc
      obtain ⟨al, rfl, h_al⟩ := isE_inv k0
      have e_al : asAl (pAl al) = al := asAl_mk al
      have i_al := isAl_mk h_al
      obtain ⟨a, q_a, h_a⟩ := isE_inv k1
      injection q_a with qa_a qb_a
      subst qa_a
      subst qb_a
      have e_a : asBL (.sl _ _) = a := asBL_mk a
      have i_a := isBL_mk h_a
      obtain rfl := Nat.eq_of_beq_eq_true k2
      obtain rfl := Nat.eq_of_beq_eq_true k3
      obtain rfl := Nat.eq_of_beq_eq_true k4
      obtain rfl := Nat.eq_of_beq_eq_true k5
      try simp only [e_al, e_a] at k6
      obtain rfl := eq_of_beq k6
      try simp only [e_al, e_a] at k7
      obtain rfl := eq_of_beq k7
      try simp only [e_al, e_a] at k8
      have c0 := of_decide_eq_true k8
      try simp only [e_al, e_a] at k9
      have c1 := k9
      try simp only [e_al, e_a] at k10
      have c2 := of_decide_eq_true k10
      try simp only [e_al, e_a] at k11
      have c3 := of_decide_eq_true k11
      try simp only [e_al, e_a] at k12
      have c4 := holds_inv k12
      try simp only [e_al, e_a]
      have := item_loop3 f s n hi c t al a c0 c1 c2 c3 c4 n.toNat 0 (by omega)
      rw [show nowV s (.mk n hi c t al) a 0 = a from nowL_zero (by rw [len_size]; exact c2)] at this
      exact this
    · cases hl
  · refine ⟨noLoop (by kernel_rfl), ?_⟩
    intro ls e ls' hl
    replace hl : pickA (LO_item_8 f ls) = some (e, ls') := hl
    unfold LO_item_8 at hl
    split at hl
    · rename_i x3 s x4 lo hi c t p_al x7 e_a n_a l_a x8 e_r n_r l_r k
      obtain ⟨hc, he⟩ := pick1 hl
      cases he
      obtain ⟨hc, k15⟩ := andE hc
      obtain ⟨hc, k14⟩ := andE hc
      obtain ⟨hc, k13⟩ := andE hc
      obtain ⟨hc, k12⟩ := andE hc
      obtain ⟨hc, k11⟩ := andE hc
      obtain ⟨hc, k10⟩ := andE hc
      obtain ⟨hc, k9⟩ := andE hc
      obtain ⟨hc, k8⟩ := andE hc
      obtain ⟨hc, k7⟩ := andE hc
      obtain ⟨hc, k6⟩ := andE hc
      obtain ⟨hc, k5⟩ := andE hc
      obtain ⟨hc, k4⟩ := andE hc
      obtain ⟨hc, k3⟩ := andE hc
      obtain ⟨hc, k2⟩ := andE hc
      obtain ⟨hc, k1⟩ := andE hc
      have k0 := hc
      obtain ⟨al, rfl, h_al⟩ := isE_inv k0
      have e_al : asAl (pAl al) = al := asAl_mk al
      have i_al := isAl_mk h_al
      obtain ⟨a, q_a, h_a⟩ := isE_inv k1
      injection q_a with qa_a qb_a
      subst qa_a
      subst qb_a
      have e_a : asBL (.sl _ _) = a := asBL_mk a
      have i_a := isBL_mk h_a
      obtain ⟨r, q_r, h_r⟩ := isE_inv k2
      injection q_r with qa_r qb_r
      subst qa_r
      subst qb_r
      have e_r : asBL (.sl _ _) = r := asBL_mk r
      have i_r := isBL_mk h_r
      obtain rfl := Nat.eq_of_beq_eq_true k3
      obtain rfl := Nat.eq_of_beq_eq_true k4
      obtain rfl := Nat.eq_of_beq_eq_true k5
      obtain rfl := Nat.eq_of_beq_eq_true k6
      obtain rfl := Nat.eq_of_beq_eq_true k7
      obtain rfl := Nat.eq_of_beq_eq_true k8
      try simp only [e_al, e_a, e_r] at k9
      obtain rfl := eq_of_beq k9
      try simp only [e_al, e_a, e_r] at k10
      have c0 := of_decide_eq_true k10
      try simp only [e_al, e_a, e_r] at k11
      have c1 := k11
      try simp only [e_al, e_a, e_r] at k12
      have c2 := of_decide_eq_true k12
      try simp only [e_al, e_a, e_r] at k13
      have c3 := of_decide_eq_true k13
      try simp only [e_al, e_a, e_r] at k14
      have c4 := holds_inv k14
      try simp only [e_al, e_a, e_r] at k15
      have c5 := holds_inv k15
      try simp only [e_al, e_a, e_r]
      subst c5
      have hz : nowV s (.mk k hi c t al) r 0 = r := nowL_zero (by rw [len_size]; exact c2)
      have hz2 : reachV s (.mk k hi c t al) r 0 = r := reach_zero (by rw [len_size]; exact c2)
      obtain ⟨g1, g2, _, _, _⟩ := item_facts c1
      replace g1 : 0 ≤ k ∧ k ≤ 99 := g1
      replace g2 : hi = -1 ∨ (k ≤ hi ∧ hi ≤ 99) := g2
      by_cases hh : hi = -1
      · have := item_loop8b f s k hi c t al r c0 c1 c2 c3 c4 hh (s.size + 2) 0 (by omega) (Nat.zero_le _)
        rw [hz, hz2, show k + ((0 : Nat) : Int) = k by omega] at this
        exact this
      · have := item_loop8a f s k hi c t al r c0 c1 c2 c3 c4 hh (hi - k).toNat 0 (by omega)
        rw [hz, hz2, show k + ((0 : Nat) : Int) = k by omega] at this
        exact this
    · cases hl
theorem ok_item (f : Nat) (hX : EntryOk Try.prog 36 (E_allX f)) : EntryOk Try.prog 53 (E_item f) := entry_of mix (ok_gib0 f hX) (lp := lp_item) (LO := (LO_item f)) ⟨Try.func53, by kernel_rfl, by kernel_rfl⟩ (by kernel_rfl) fun ivs res bxs h => by
  unfold E_item at h
  split at h
  · rename_i s p_p p_b
    obtain ⟨hc, he⟩ := pick1 h
    cases he
    obtain ⟨hc, k5⟩ := andE hc
    obtain ⟨hc, k4⟩ := andE hc
    obtain ⟨hc, k3⟩ := andE hc
    obtain ⟨hc, k2⟩ := andE hc
    obtain ⟨hc, k1⟩ := andE hc
    have k0 := hc
    obtain ⟨p, rfl, h_p⟩ := isE_inv k0
    have e_p : asP1 (pP1 p) = p := asP1_mk p
    have i_p := isP1_mk h_p
    obtain ⟨b, rfl, h_b⟩ := isE_inv k1
    have e_b : asBL (pBL b) = b := asBL_mk b
    have i_b := isBL_mk h_b
    try simp only [e_p, e_b] at k2
    have c0 := of_decide_eq_true k2
    try simp only [e_p, e_b] at k3
    have c1 := k3
    try simp only [e_p, e_b] at k4
    have c2 := of_decide_eq_true k4
    try simp only [e_p, e_b] at k5
    have c3 := of_decide_eq_true k5
    try simp only [e_p, e_b]
    refine ⟨loops_item f hX, (q_item_eq f s p b).trans ?_⟩
    have hn := len_size s
    obtain ⟨g1, g2, g3, g4, g5⟩ := item_facts c1
    obtain ⟨_, _, z3, z4, z5⟩ := shP1_facts h_p
    have hbs : shBL b := h_b
    have hl : (nowV s p b p.low.toNat).length = s.size + 1 := by rw [nowL_len, hn]
    have hN : shBL (nowV s p b p.low.toNat) := by unfold shBL; rw [hl]; omega
    simp (disch := first | omega | rfl) only [isBL, isBL_mk hbs, isBL_mk hN, asBL, asBL_mk, isAl, isAl_mk z5, asAl, asAl_mk, PatT_eta, holds_true, holds_mk h_p, c1, dT c0, dT c2, dT c3, dT hl, dT (show 1 ≤ b.length by omega), dT (show 1 ≤ (nowV s p b p.low.toNat).length by omega), decide_true, Nat.beq_refl, beq_self_eq_true, Bool.and_true, Bool.true_and]
    rw [show restV s p (nowV s p b p.low.toNat) = itemV s p b from item_rest (by rw [hn]; exact c2) (by omega)]
    rfl
  · cases h
theorem ok_gib1 (f : Nat) (hX : EntryOk Try.prog 36 (E_allX f)) : EntriesOk Try.prog (gib1 f) := ⟨ok_item f hX, ok_ghb0⟩
theorem all_loop (f : Nat) (s : ByteArray) (l : List PatT) (b : List Bool) (hf : f ≤ 3) (hit : itemsL f l = true) (hb : b.length = s.size + 1) (hs : s.size ≤ 64) (hl : shPts l) : ∀ (m i : Nat), m + i = l.length →
    LoopsTo (rdB brC Try.prog (gib1 f) lp_all (LO_all f) Try.f36 2 []) [aOwB 2 (allV s (l.take i) b), aBx 3 [.pv (.str s)], aP (pPt l), aI l.length, aI i] (.exit 0, [aOwB 2 (allV s l b)]) := by
  have hn := len_size s
  have hb' : b.length = s.data.toList.length + 1 := by omega
  have hll := hl.1
  have hA : ∀ k, (allV s (l.take k) b).length = s.size + 1 := fun k => by rw [allL_len, hn]
  have hAs : ∀ k, shBL (allV s (l.take k) b) := fun k => by unfold shBL; rw [hA]; omega
  intro m
  induction m with
  | zero =>
    intro i hm
    obtain rfl : i = l.length := by omega
    have tree := r_allM_eq f (allV s (l.take l.length) b) s l l.length l.length
    rw [dF (show ¬ ((l.length : Int) < (l.length : Int)) by omega)] at tree
    rw [List.take_length] at tree ⊢
    exact .done _ _ tree
  | succ m ih =>
    intro i hm
    have hi : i < l.length := by omega
    have ih' := ih (i + 1) (by omega)
    have hsp := shPts_at hl hi
    have hib := itemsL_at hit hi
    have tree := r_allM_eq f (allV s (l.take i) b) s l l.length i
    simp (disch := first | omega | rfl) only [drop_encPt l i hi, isP1, isP1_mk hsp, asP1, asP1_mk, hib, isBL, isBL_mk (hAs i), asBL, asBL_mk, dT (hA i), dT hf, dT hs, decide_true, dT, Int.toNat_natCast, List.length_cons, List.headD_cons, List.tail_cons, PV.isStr, PV.asStr, PV.isSl, PV.slN, PV.slL, PV.isInt, PV.asInt, ble5, wrap1, Bool.and_true, Bool.true_and] at tree
    rw [show itemV s l[i] (allV s (l.take i) b) = allV s (l.take (i + 1)) b from allL_succ hb' hi] at tree
    exact .step _ _ _ tree ih'
theorem all_first (f : Nat) (s : ByteArray) (l : List PatT) (b : List Bool) (hf : f ≤ 3) (hit : itemsB f l = true) (hb : b.length = s.size + 1) (hs : s.size ≤ 64) (hl : shPts l) :
    LoopsTo (rdB brC Try.prog (gib1 f) lp_all (LO_all f) Try.f36 2 []) [aP (pBL b), aBx 3 [.pv (.str s)], aP (pPt l), aI l.length, aI 0] (.exit 0, [aOwB 2 (allV s l b)]) := by
  have hn := len_size s
  have hb' : b.length = s.data.toList.length + 1 := by omega
  have hll := hl.1
  unfold itemsB rngI at hit
  simp only [Bool.and_eq_true, decide_eq_true_eq] at hit
  have hi : 0 < l.length := by omega
  have hbs : shBL b := by unfold shBL; omega
  have hsp := shPts_at hl hi
  have hib := itemsL_at hit.2 hi
  have tree := r_all_eq f b s l l.length (0 : Nat)
  simp (disch := first | omega | rfl) only [drop_encPt l 0 hi, isP1, isP1_mk hsp, asP1, asP1_mk, hib, isBL, isBL_mk hbs, asBL, asBL_mk, dT hb, dT hf, dT hs, decide_true, dT, Int.toNat_natCast, List.length_cons, List.headD_cons, List.tail_cons, PV.isStr, PV.asStr, PV.isSl, PV.slN, PV.slL, PV.isInt, PV.asInt, ble5, wrap1, Bool.and_true, Bool.true_and] at tree
  have e1 := allL_succ (s := s.data.toList) (l := l) hb' hi
  rw [List.take_zero, allL_nil hb'] at e1
  rw [show itemV s l[0] b = allV s (l.take 1) b from e1] at tree
  exact .step _ _ _ tree (all_loop f s l b hf hit.2 hb hs hl (l.length - 1) 1 (by omega))
theorem loops_all (f : Nat) (hX : EntryOk Try.prog 36 (E_allX f)) : ∀ b ∈ loopsIn (bodyOf Try.f36), LoopOk Try.prog (tabL (gib1 f)) (OL lp_all) Try.f36.ntmps (pbOf []) (LO_all f) b := by
  refine oneLoop 2 (by kernel_rfl) (by kernel_rfl) (by kernel_rfl) ?_
  intro ls e ls' hl
  replace hl : pickA (LO_all_2 f ls) = some (e, ls') := hl
  unfold LO_all_2 at hl
  split at hl
  · rename_i p_b x3 s p_l n i
    obtain ⟨hc, he⟩ := pick1 hl
    cases he
    obtain ⟨hc, k8⟩ := andE hc
    obtain ⟨hc, k7⟩ := andE hc
    obtain ⟨hc, k6⟩ := andE hc
    obtain ⟨hc, k5⟩ := andE hc
    obtain ⟨hc, k4⟩ := andE hc
    obtain ⟨hc, k3⟩ := andE hc
    obtain ⟨hc, k2⟩ := andE hc
    obtain ⟨hc, k1⟩ := andE hc
    have k0 := hc
    obtain ⟨b, rfl, h_b⟩ := isE_inv k0
    have e_b : asBL (pBL b) = b := asBL_mk b
    have i_b := isBL_mk h_b
    obtain ⟨l, rfl, h_l⟩ := isE_inv k1
    have e_l : asPt (pPt l) = l := asPt_mk l
    have i_l := isPt_mk h_l
    obtain rfl := Nat.eq_of_beq_eq_true k2
    try simp only [e_b, e_l] at k3
    obtain rfl := eq_of_beq k3
    try simp only [e_b, e_l] at k4
    obtain rfl := eq_of_beq k4
    try simp only [e_b, e_l] at k5
    have c0 := of_decide_eq_true k5
    try simp only [e_b, e_l] at k6
    have c1 := k6
    try simp only [e_b, e_l] at k7
    have c2 := of_decide_eq_true k7
    try simp only [e_b, e_l] at k8
    have c3 := of_decide_eq_true k8
    try simp only [e_b, e_l]
    exact all_first f s l b c0 c1 c2 c3 h_l
  · cases hl
theorem ok_all (f : Nat) (hX : EntryOk Try.prog 36 (E_allX f)) : EntryOk Try.prog 36 (E_all f) := entry_of mix (ok_gib1 f hX) (lp := lp_all) (LO := (LO_all f)) ⟨Try.func36, by kernel_rfl, by kernel_rfl⟩ (by kernel_rfl) fun ivs res bxs h => by
  unfold E_all at h
  split at h
  · rename_i s p_l p_b
    obtain ⟨hc, he⟩ := pick1 h
    cases he
    obtain ⟨hc, k5⟩ := andE hc
    obtain ⟨hc, k4⟩ := andE hc
    obtain ⟨hc, k3⟩ := andE hc
    obtain ⟨hc, k2⟩ := andE hc
    obtain ⟨hc, k1⟩ := andE hc
    have k0 := hc
    obtain ⟨l, rfl, h_l⟩ := isE_inv k0
    have e_l : asPt (pPt l) = l := asPt_mk l
    have i_l := isPt_mk h_l
    obtain ⟨b, rfl, h_b⟩ := isE_inv k1
    have e_b : asBL (pBL b) = b := asBL_mk b
    have i_b := isBL_mk h_b
    try simp only [e_l, e_b] at k2
    have c0 := of_decide_eq_true k2
    try simp only [e_l, e_b] at k3
    have c1 := k3
    try simp only [e_l, e_b] at k4
    have c2 := of_decide_eq_true k4
    try simp only [e_l, e_b] at k5
    have c3 := of_decide_eq_true k5
    try simp only [e_l, e_b]
    refine ⟨loops_all f hX, (q_all_eq f s l b).trans ?_⟩
    have hbs : shBL b := h_b
    simp (disch := first | omega | rfl) only [isBL, isBL_mk hbs, asBL, asBL_mk, isPt, isPt_mk h_l, asPt, asPt_mk, c1, dT c0, dT c2, dT c3, decide_true, Nat.beq_refl, beq_self_eq_true, Bool.and_true, Bool.true_and]
    rfl
  · cases h
end Go.Proofs.Ytdegegajoccdjaa
