/- Patterns: what matches, by the reckoner: proofs. -/
import Derived.Test.YtdegegajoccdjaaGfT
namespace Go.Proofs.Ytdegegajoccdjaa
open Go.RowKit
set_option linter.unusedVariables false
set_option linter.unusedSimpArgs false
set_option maxRecDepth 100000

theorem orTo_len {a b : List Bool} (h : a.length = b.length) (i : Nat) : (orTo a b i).length = a.length := by
  unfold orTo
  rw [List.length_append, orL_len (by rw [List.length_take, List.length_take, h]), List.length_take, List.length_drop]
  omega
theorem orTo_at {a b : List Bool} (h : a.length = b.length) {i : Nat} (hi : i < a.length) : (orTo a b i).drop i = a[i] :: a.drop (i + 1) := by
  unfold orTo
  have : (orL (a.take i) (b.take i)).length = i := by rw [orL_len (by rw [List.length_take, List.length_take, h]), List.length_take]; omega
  rw [List.drop_append, this, Nat.sub_self, List.drop_zero, List.drop_eq_nil_of_le (by omega), List.nil_append, List.drop_eq_getElem_cons hi]
theorem orTo_take {a b : List Bool} (h : a.length = b.length) {i : Nat} (hi : i < a.length) : (orTo a b i).take i = orL (a.take i) (b.take i) := by
  unfold orTo
  have : (orL (a.take i) (b.take i)).length = i := by rw [orL_len (by rw [List.length_take, List.length_take, h]), List.length_take]; omega
  rw [List.take_append, this, Nat.sub_self, List.take_zero, List.append_nil, List.take_of_length_le (by omega)]
theorem orTo_succ {a b : List Bool} (h : a.length = b.length) {i : Nat} (hi : i < a.length) : orTo a b (i + 1) = orL (a.take i) (b.take i) ++ (a[i] || b[i]) :: a.drop (i + 1) := by
  unfold orTo orL
  rw [List.take_succ_eq_append_getElem hi, List.take_succ_eq_append_getElem (by omega : i < b.length), List.zipWith_append (by rw [List.length_take, List.length_take, h])]
  simp
theorem moreTo_succ {a b : List Bool} (h : a.length = b.length) {i : Nat} (hi : i < a.length) : moreTo a b (i + 1) = (moreTo a b i || (b[i] && !a[i])) := by
  unfold moreTo moreB
  rw [List.take_succ_eq_append_getElem hi, List.take_succ_eq_append_getElem (by omega : i < b.length), List.zipWith_append (by rw [List.length_take, List.length_take, h])]
  simp
theorem join_loop (a b : List Bool) (hab : a.length = b.length) (hb : b.length ≤ 100000) : ∀ (m i : Nat), m + i = b.length → LoopsTo (rdB brC Try.prog [] lp_join LO_join Try.f63 3 [0]) [((.own 0, some (.lst 1 4 a.length ((orTo a b i).map PV.bool) true)) : AV × Option Ob), aB (moreTo a b i), aP (pBL b), aI b.length, aI i] (.exit 0, [((.own 0, some (.lst 1 4 a.length ((orL a b).map PV.bool) true)) : AV × Option Ob), aB (moreB a b)]) := by
  intro m
  induction m with
  | zero =>
    intro i hm
    obtain rfl : i = b.length := by omega
    have e1 : orTo a b b.length = orL a b := by unfold orTo; rw [List.take_of_length_le (by omega), List.take_of_length_le (by omega), List.drop_eq_nil_of_le (by omega), List.append_nil]
    have e2 : moreTo a b b.length = moreB a b := by unfold moreTo; rw [List.take_of_length_le (by omega), List.take_of_length_le (by omega)]
    have tree := r_join_eq (orTo a b b.length) (moreTo a b b.length) b b.length b.length
    rw [dF (show ¬ ((b.length : Int) < (b.length : Int)) by omega)] at tree
    unfold r_join at tree
    rw [orTo_len hab, e1, e2] at tree
    rw [e1, e2]
    exact .done _ _ tree
  | succ m ih =>
    intro i hm
    have hi : i < b.length := by omega
    have ha : i < a.length := by omega
    have ih' := ih (i + 1) (by omega)
    rw [orTo_succ hab ha, moreTo_succ hab ha] at ih'
    have tree := r_join_eq (orTo a b i) (moreTo a b i) b b.length i
    unfold r_join at tree
    have hd := orTo_at hab ha
    have d1 : ((orTo a b i).map PV.bool).drop (i * 1) = .bool a[i] :: (a.drop (i + 1)).map PV.bool := by rw [Nat.mul_one, ← List.map_drop, hd]; rfl
    have d2 : ((orTo a b i).map PV.bool).drop (i * 1 + 1) = (a.drop (i + 1)).map PV.bool := by
      rw [Nat.mul_one, ← List.map_drop, ← List.drop_drop, hd]; rfl
    have b1 : Nat.ble (i * 1) a.length = true := Nat.ble_eq_true_of_le (by omega)
    have b2 : Nat.ble (i * 1 + 1) a.length = true := Nat.ble_eq_true_of_le (by omega)
    have b3 : Nat.beq (0 + 1) 1 = true := rfl
    have b4 : Nat.beq 1 1 = true := rfl
    have d3 : ((orTo a b i).map PV.bool).take (i * 1) = (orL (a.take i) (b.take i)).map PV.bool := by rw [Nat.mul_one, ← List.map_take, orTo_take hab ha]
    simp (disch := first | omega | rfl) only [drop_bools b i hi, d1, d2, d3, orTo_len hab, List.length_map, Nat.beq_refl, List.length_nil, List.length_singleton, b1, b2, b3, b4, decide_true, dT, Int.toNat_natCast, List.length_cons, List.headD_cons, List.tail_cons, List.drop_zero, List.drop_succ_cons, PV.isStr, PV.asStr, PV.isSl, PV.slN, PV.slL, PV.isInt, PV.asInt, PV.isBool, PV.asBool, ble1, ble2, ble3, ble4, ble5, ble6, blt0, wrap1, Bool.and_true, Bool.true_and] at tree
    rw [List.map_append, List.map_cons] at ih'
    refine .step _ _ _ (tree.trans ?_) ih'
    generalize a[i] = x
    generalize b[i] = y
    generalize moreTo a b i = z
    cases z <;> cases y <;> cases x <;> simp [brC]
theorem loops_join : ∀ b ∈ loopsIn (bodyOf Try.f63), LoopOk Try.prog (tabL []) (OL lp_join) Try.f63.ntmps (pbOf [0]) LO_join b := by
  refine oneLoop 3 (by kernel_rfl) (by kernel_rfl) (by kernel_rfl) ?_
  intro ls e ls' hl
  replace hl : pickA (LO_join_3 ls) = some (e, ls') := hl
  unfold LO_join_3 at hl
  split at hl
  · rename_i x0 e_a n_a l_a l p_b n i
    obtain ⟨hc, he⟩ := pick1 hl
    cases he
    obtain ⟨hc, k7⟩ := andE hc
    obtain ⟨hc, k6⟩ := andE hc
    obtain ⟨hc, k5⟩ := andE hc
    obtain ⟨hc, k4⟩ := andE hc
    obtain ⟨hc, k3⟩ := andE hc
    obtain ⟨hc, k2⟩ := andE hc
    obtain ⟨hc, k1⟩ := andE hc
    have k0 := hc
    obtain ⟨a, q_a, h_a⟩ := isE_inv k0
    injection q_a with qa_a qb_a
    subst qa_a
    subst qb_a
    have e_a : asBL (.sl _ _) = a := asBL_mk a
    have i_a := isBL_mk h_a
    obtain ⟨b, rfl, h_b⟩ := isE_inv k1
    have e_b : asBL (pBL b) = b := asBL_mk b
    have i_b := isBL_mk h_b
    obtain rfl := Nat.eq_of_beq_eq_true k2
    obtain rfl := Nat.eq_of_beq_eq_true k3
    try simp only [e_a, e_b] at k4
    obtain rfl := eq_of_beq k4
    try simp only [e_a, e_b] at k5
    obtain rfl := eq_of_beq k5
    try simp only [e_a, e_b] at k6
    have c0 := of_decide_eq_true k6
    try simp only [e_a, e_b] at k7
    have c1 := k7
    try simp only [e_a, e_b]
    obtain rfl : l = false := by cases l <;> simp_all
    exact join_loop a b c0 h_b b.length 0 (by omega)
  · cases hl
theorem ok_join : EntryOk Try.prog 63 E_join := entry_of mix (tab := []) trivial (lp := lp_join) (LO := LO_join) ⟨Try.func63, by kernel_rfl, by kernel_rfl⟩ (by kernel_rfl) fun ivs res bxs h => by
  unfold E_join at h
  split at h
  · rename_i e_a n_a l_a p_b
    obtain ⟨hc, he⟩ := pick1 h
    cases he
    obtain ⟨hc, k3⟩ := andE hc
    obtain ⟨hc, k2⟩ := andE hc
    obtain ⟨hc, k1⟩ := andE hc
    have k0 := hc
    obtain ⟨a, q_a, h_a⟩ := isE_inv k0
    injection q_a with qa_a qb_a
    subst qa_a
    subst qb_a
    have e_a : asBL (.sl _ _) = a := asBL_mk a
    have i_a := isBL_mk h_a
    obtain ⟨b, rfl, h_b⟩ := isE_inv k1
    have e_b : asBL (pBL b) = b := asBL_mk b
    have i_b := isBL_mk h_b
    obtain rfl := Nat.eq_of_beq_eq_true k2
    try simp only [e_a, e_b] at k3
    have c0 := of_decide_eq_true k3
    try simp only [e_a, e_b]
    refine ⟨loops_join, (q_join_eq a b).trans ?_⟩
    have hb : shBL b := h_b
    simp only [isBL, i_a, i_b, e_a, e_b, dT c0, Nat.beq_refl, beq_self_eq_true, Bool.and_true, Bool.not_false]
    rfl
  · cases h
end Go.Proofs.Ytdegegajoccdjaa
