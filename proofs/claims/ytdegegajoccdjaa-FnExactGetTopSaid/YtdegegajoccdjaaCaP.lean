/- Superblocks of the reference, by the reckoner: proofs. -/
import Derived.Test.YtdegegajoccdjaaCaT
namespace Go.Proofs.Ytdegegajoccdjaa
open Go.RowKit
set_option linter.unusedVariables false
set_option linter.unusedSimpArgs false
set_option maxRecDepth 100000

theorem bslot (x y : SeT) : (!(x.slot == y.slot)) = true ↔ ¬ x.slot = y.slot := by simp
theorem seats7_loop (l : List SeT) (h : shSes l) (i : Nat) (hi : i < l.length) : ∀ (m k : Nat), m + k = i →
    LoopsTo (rdB brC Try.prog cab0 lp_seats LO_seats Try.f58 7 []) [aP (pSes l), aI i, aI k] (if ((l.take i).drop k).all (fun y => !(y.slot == l[i].slot)) = true then (.exit 2, [aP (pSes l), aX, aI i]) else (.ret, [aP (pSes l), aB false, aI i])) := by
  have hl := h.1
  intro m
  induction m with
  | zero =>
    intro k hk
    rw [List.drop_eq_nil_of_le (by rw [List.length_take]; omega)]
    refine .done _ _ ((r_seats7_eq l i k).trans ?_)
    rw [dF (by omega)]
    rfl
  | succ m ih =>
    intro k hk
    have hkl : k < l.length := by omega
    have hkt : k < (l.take i).length := by rw [List.length_take]; omega
    have tree := r_seats7_eq l i k
    have w1 : IntKind.wrap .i64 ((k : Int) + 1) = ((k + 1 : Nat) : Int) := by rw [wrapI (by omega) (by omega)]; omega
    rw [w1] at tree
    simp (disch := first | omega | rfl) only [drop_encSe l i hi, drop_encSe l k hkl, decide_true, dT, Int.toNat_natCast, List.length_cons, List.headD_cons, List.tail_cons, List.drop_zero, List.drop_succ_cons, PV.isStr, PV.asStr, PV.isSl, PV.slN, PV.slL, PV.isInt, PV.asInt, PV.isBool, PV.asBool, ble1, ble2, ble3, ble4, ble5, ble6, blt0, wrap1, Bool.and_true, Bool.true_and] at tree
    have ih' := ih (k + 1) (by omega)
    rw [List.drop_eq_getElem_cons hkt, List.all_cons, List.getElem_take]
    by_cases hx : l[k].slot = l[i].slot
    · rw [show (l[k].slot == l[i].slot) = true from beq_iff_eq.2 hx] at tree ⊢
      simp only [Bool.not_true, Bool.false_and, if_neg Bool.false_ne_true]
      exact .done _ _ tree
    · rw [show (l[k].slot == l[i].slot) = false from beq_eq_false_iff_ne.2 hx] at tree ⊢
      simp only [Bool.not_false, Bool.true_and]
      exact .step _ _ _ tree ih'
theorem lastLt_take (l : List SeT) (i : Nat) (hi : i < l.length) (h0 : ¬ i = 0) (x : SeT) : lastLt (l.take i) x = decide ((l[i - 1]'(by omega)).id < x.id) := by
  unfold lastLt
  have : (l.take i).getLast? = some (l[i - 1]'(by omega)) := by
    rw [List.getLast?_eq_getElem?, List.length_take, show min i l.length - 1 = i - 1 by omega, List.getElem?_take, if_pos (by omega), List.getElem?_eq_getElem (by omega)]
  rw [this]
theorem seats2_loop (l : List SeT) (h : shSes l) : ∀ (m i : Nat), m + i = min l.length 65 →
    LoopsTo (rdB brC Try.prog cab0 lp_seats LO_seats Try.f58 2 []) [aP (pSes l), aI i] (if seatsC (l.take i) ((l.take 65).drop i) = true then (.exit 0, [aP (pSes l), aX]) else (.ret, [aP (pSes l), aB false])) := by
  have hl := h.1
  intro m
  induction m with
  | zero =>
    intro i hi
    rw [List.drop_eq_nil_of_le (by rw [List.length_take]; omega)]
    refine .done _ _ ((r_seats2_eq l i).trans ?_)
    by_cases h1 : i < l.length
    · rw [dT (show (i : Int) < (l.length : Int) by omega), dF (show ¬ (i : Int) ≤ 64 by omega)]
      rfl
    · rw [dF (show ¬ (i : Int) < (l.length : Int) by omega)]
      rfl
  | succ m ih =>
    intro i hi
    have hil : i < l.length := by omega
    have hit : i < (l.take 65).length := by rw [List.length_take]; omega
    have ih' := ih (i + 1) (by omega)
    have tree := r_seats2_eq l i
    have w1 : IntKind.wrap .i64 ((i : Int) + 1) = ((i + 1 : Nat) : Int) := by rw [wrapI (by omega) (by omega)]; omega
    have iS : isSes (pSes l) = true := isSes_mk h
    have aS : asSes (pSes l) = l := asSes_mk l
    have hg : l.getD i default = l[i] := by rw [List.getD_eq_getElem?_getD, List.getElem?_eq_getElem hil]; rfl
    have e65 : (l.take 65)[i] = l[i] := List.getElem_take
    have et : l.take (i + 1) = l.take i ++ [l[i]] := List.take_succ_eq_append_getElem hil
    rw [et] at ih'
    rw [iS, aS] at tree
    simp (disch := first | omega | rfl) only [drop_encSe l i hil, hg, w1, beq_self_eq_true, decide_true, dT, Int.toNat_natCast, List.length_cons, List.headD_cons, List.tail_cons, List.drop_zero, List.drop_succ_cons, PV.isStr, PV.asStr, PV.isSl, PV.slN, PV.slL, PV.isInt, PV.asInt, PV.isBool, PV.asBool, ble1, ble2, ble3, ble4, ble5, ble6, blt0, wrap1, Bool.and_true, Bool.true_and] at tree
    rw [List.drop_eq_getElem_cons hit, e65]
    unfold seatsC seatOne
    unfold inB
    generalize seatsC (l.take i ++ [l[i]]) ((l.take 65).drop (i + 1)) = R at ih' ⊢
    generalize hA : (l.take i).all (fun y => !(y.slot == l[i].slot)) = A at tree ⊢
    by_cases h0 : i = 0
    · subst h0
      rw [dF (show ¬ ((0 : Nat) : Int) > 0 by omega)] at tree
      have hL : lastLt (l.take 0) l[0] = true := rfl
      rw [hL]
      generalize (decide (1 ≤ l[0].id) && decide (l[0].id ≤ 64)) = c1 at tree ⊢
      generalize (decide (2 ≤ l[0].slot) && decide (l[0].slot ≤ 399)) = c2 at tree ⊢
      cases c1 <;> cases c2 <;> cases A <;> (simp only [Bool.true_and, Bool.false_and, Bool.and_false, Bool.and_true, if_neg Bool.false_ne_true]; first | exact .done _ _ tree | exact .step _ _ _ tree ih')
    · have hj : i - 1 < l.length := by omega
      have w2 : IntKind.wrap .i64 ((i : Int) - 1) = ((i - 1 : Nat) : Int) := by rw [wrapI (by omega) (by omega)]; omega
      rw [dT (show (i : Int) > 0 by omega)] at tree
      simp (disch := first | omega | rfl) only [w2, drop_encSe l (i - 1) hj, decide_true, dT, Int.toNat_natCast, List.length_cons, List.headD_cons, List.tail_cons, List.drop_zero, List.drop_succ_cons, PV.isStr, PV.asStr, PV.isSl, PV.slN, PV.slL, PV.isInt, PV.asInt, PV.isBool, PV.asBool, ble1, ble2, ble3, ble4, ble5, ble6, blt0, wrap1, Bool.and_true, Bool.true_and] at tree
      rw [lastLt_take l i hil h0 l[i]]
      rw [show decide (l[i - 1].id ≥ l[i].id) = !decide (l[i - 1].id < l[i].id) by by_cases h : l[i - 1].id < l[i].id <;> simp [h] <;> omega] at tree
      generalize (decide (1 ≤ l[i].id) && decide (l[i].id ≤ 64)) = c1 at tree ⊢
      generalize (decide (2 ≤ l[i].slot) && decide (l[i].slot ≤ 399)) = c2 at tree ⊢
      generalize decide (l[i - 1].id < l[i].id) = c3 at tree ⊢
      cases c1 <;> cases c2 <;> cases c3 <;> cases A <;> (simp only [Bool.true_and, Bool.false_and, Bool.and_false, Bool.and_true, if_neg Bool.false_ne_true]; first | exact .done _ _ tree | exact .step _ _ _ tree ih')
theorem law7 : ∀ ls e ls', pickA (LO_seats 7 ls) = some (e, ls') → LoopsTo (rdB brC Try.prog cab0 lp_seats LO_seats Try.f58 7 []) ls (e, ls') := by
  intro ls e ls' hl
  replace hl : pickA (LO_seats_7 ls) = some (e, ls') := hl
  unfold LO_seats_7 at hl
  split at hl
  · rename_i p i k
    have fin : (isSes p && decide (0 ≤ i) && decide (i < (asSes p).length) && (k == 0)) = true → LoopsTo (rdB brC Try.prog cab0 lp_seats LO_seats Try.f58 7 []) [(.pv p, none), (.pv (.int .i64 i), none), (.pv (.int .i64 k), none)] (if ((asSes p).take i.toNat).all (fun y => !(y.slot == ((asSes p).getD i.toNat default).slot)) = true then (.exit 2, [aP p, aX, aI i]) else (.ret, [aP p, aB false, aI i])) := by
      intro hc
      obtain ⟨hc, k3⟩ := andE hc
      obtain ⟨hc, k2⟩ := andE hc
      obtain ⟨k0, k1⟩ := andE hc
      obtain ⟨l, rfl, h_l⟩ := isE_inv k0
      have e_l : asSes (pSes l) = l := asSes_mk l
      rw [e_l] at k2 ⊢
      obtain rfl := eq_of_beq k3
      obtain ⟨i, rfl⟩ := Int.eq_ofNat_of_zero_le (of_decide_eq_true k1)
      have hi : i < l.length := by have := of_decide_eq_true k2; omega
      have hg : l.getD i default = l[i] := by rw [List.getD_eq_getElem?_getD, List.getElem?_eq_getElem hi]; rfl
      rw [Int.toNat_natCast, hg]
      exact seats7_loop l h_l i hi i 0 (by omega)
    rcases pick2 hl with ⟨hc, he⟩ | ⟨hn, hc, he⟩
    · cases he
      obtain ⟨hc, k⟩ := andE hc
      have := fin hc
      rwa [if_pos k] at this
    · cases he
      have := fin hc
      rwa [if_neg (fun k => by rw [hc, k] at hn; cases hn)] at this
  · cases hl
theorem law2 : ∀ ls e ls', pickA (LO_seats 2 ls) = some (e, ls') → LoopsTo (rdB brC Try.prog cab0 lp_seats LO_seats Try.f58 2 []) ls (e, ls') := by
  intro ls e ls' hl
  replace hl : pickA (LO_seats_2 ls) = some (e, ls') := hl
  unfold LO_seats_2 at hl
  split at hl
  · rename_i p i
    have fin : (isSes p && (i == 0)) = true → LoopsTo (rdB brC Try.prog cab0 lp_seats LO_seats Try.f58 2 []) [(.pv p, none), (.pv (.int .i64 i), none)] (if seatsC [] ((asSes p).take 65) = true then (.exit 0, [aP p, aX]) else (.ret, [aP p, aB false])) := by
      intro hc
      obtain ⟨k0, k1⟩ := andE hc
      obtain ⟨l, rfl, h_l⟩ := isE_inv k0
      have e_l : asSes (pSes l) = l := asSes_mk l
      rw [e_l]
      obtain rfl := eq_of_beq k1
      exact seats2_loop l h_l (min l.length 65) 0 rfl
    rcases pick2 hl with ⟨hc, he⟩ | ⟨hn, hc, he⟩
    · cases he
      obtain ⟨hc, k⟩ := andE hc
      have := fin hc
      rwa [if_pos k] at this
    · cases he
      have := fin hc
      rwa [if_neg (fun k => by rw [hc, k] at hn; cases hn)] at this
  · cases hl
theorem ok_cab0 : EntriesOk Try.prog cab0 := ⟨ok_In, trivial⟩
theorem ok_seats : EntryOk Try.prog 58 E_seats := entry_of mix ok_cab0 (lp := lp_seats) (LO := LO_seats) ⟨Try.func58, by kernel_rfl, by kernel_rfl⟩ (by kernel_rfl) fun ivs res bxs h => by
  unfold E_seats at h
  split at h
  · rename_i p
    obtain ⟨hc, he⟩ := pick1 h
    cases he
    obtain ⟨l, rfl, h_l⟩ := isE_inv hc
    have e_l : asSes (pSes l) = l := asSes_mk l
    rw [e_l]
    have hin : ∀ b ∈ loopsIn (loopAt 2 Try.f58), LoopOk Try.prog (tabL cab0) (OL lp_seats) Try.f58.ntmps (pbOf []) LO_seats b := by
      intro b hb
      have e1 : loopsIn (loopAt 2 Try.f58) = [loopAt 7 Try.f58] := by kernel_rfl
      rw [e1] at hb
      rw [List.mem_singleton.1 hb]
      refine loopOk_of (noLoop (by kernel_rfl)) fun key hk => ?_
      have e2 : firstR (loopAt 7 Try.f58) = some 7 := by kernel_rfl
      rw [e2] at hk
      cases hk
      exact law7
    refine ⟨manyLoops [2, 7] (by kernel_rfl) (fun k hk => by
      rcases List.mem_cons.1 hk with rfl | hk
      · kernel_rfl
      · rw [List.mem_singleton.1 hk]; kernel_rfl) (fun k hk => by
      rcases List.mem_cons.1 hk with rfl | hk
      · exact ⟨hin, law2⟩
      · rw [List.mem_singleton.1 hk]; exact ⟨noLoop (by kernel_rfl), law7⟩), (q_seats_eq l).trans ?_⟩
    have iS : isSes (pSes l) = true := isSes_mk h_l
    rw [iS, e_l]
    unfold seatsB
    have hd : decide ((l.length : Int) ≤ 64) = decide (l.length ≤ 64) := by by_cases h : l.length ≤ 64 <;> simp [h] <;> omega
    rw [hd]
    cases seatsC [] (l.take 65) <;> rfl
  · cases h
theorem ok_cab1 : EntriesOk Try.prog cab1 := ⟨ok_seats, ok_cab0⟩
theorem ok_STopOk : EntryOk Try.prog 42 E_STopOk := entry_of mix ok_cab1 (lp := []) (LO := LO0) ⟨Try.func42, by kernel_rfl, by kernel_rfl⟩ (by kernel_rfl) fun ivs res bxs h => by
  unfold E_STopOk at h
  split at h
  · rename_i a b c n l
    obtain ⟨hc, he⟩ := pick1 h
    cases he
    obtain ⟨t, q_t, h_t⟩ := isE_inv hc
    injection q_t with qa qb
    subst qa
    subst qb
    have e_t : asSes (.sl _ _) = t := asSes_mk t
    refine ⟨noLoop (by kernel_rfl), (q_STopOk_eq a b c t).trans ?_⟩
    rw [e_t, hc]
    unfold topB inB
    generalize (decide (1 ≤ a) && decide (a ≤ 2000000000)) = c1
    generalize (decide (1 ≤ b) && decide (b ≤ 64)) = c2
    generalize (decide (0 ≤ c) && decide (c ≤ 2000000000)) = c3
    cases c1 <;> cases c2 <;> cases c3 <;> rfl
  · cases h
theorem lit_size (n : Int) (k : Nat) : (litV n k).size = k := by
  rw [litV_eq, ← len_toList]
  exact litL_len _ _
theorem seatsC_all : ∀ (t p : List SeT), seatsC p t = true → ∀ x ∈ t, (1 ≤ x.id ∧ x.id ≤ 64) ∧ 2 ≤ x.slot ∧ x.slot ≤ 399
  | [], _, _, x, hx => by cases hx
  | y :: t, p, h, x, hx => by
    unfold seatsC at h
    obtain ⟨h1, h2⟩ := andE h
    unfold seatOne inB at h1
    rcases List.mem_cons.1 hx with rfl | hx
    · simp only [Bool.and_eq_true, decide_eq_true_eq] at h1
      exact ⟨h1.1.1.1, h1.1.2⟩
    · exact seatsC_all t _ h2 x hx
theorem seatsB_inv {l : List SeT} (h : seatsB l = true) : l.length ≤ 64 ∧ ∀ x ∈ l, (1 ≤ x.id ∧ x.id ≤ 64) ∧ 2 ≤ x.slot ∧ x.slot ≤ 399 := by
  obtain ⟨h1, h2⟩ := andE h
  have h2 := of_decide_eq_true h2
  rw [List.take_of_length_le (by omega)] at h1
  exact ⟨h2, seatsC_all l [] h1⟩
theorem SPut_loop (a b c : Int) (l : List SeT) (h : shSes l) (hB : seatsB l = true) : ∀ (m i : Nat) (s : ByteArray), m + i = l.length → s.size ≤ 10 + 3 * i →
    LoopsTo (rdB brC Try.prog cab2 lp_SPut LO_SPut Try.f22 5 []) [bxT 1 a b c l, aS s, aI i] (.exit 0, [bxT 1 a b c l, aS (seatsTxt s (l.drop i))]) := by
  have hl := h.1
  obtain ⟨h64, hall⟩ := seatsB_inv hB
  intro m
  induction m with
  | zero =>
    intro i s hi hs
    rw [List.drop_eq_nil_of_le (by omega)]
    refine .done _ _ ((r_SPut_eq a b c l s i).trans ?_)
    rw [dF (by omega)]
    rfl
  | succ m ih =>
    intro i s hi hs
    have hil : i < l.length := by omega
    have tree := r_SPut_eq a b c l s i
    have w1 : IntKind.wrap .i64 ((i : Int) + 1) = ((i + 1 : Nat) : Int) := by rw [wrapI (by omega) (by omega)]; omega
    obtain ⟨⟨p1, p2⟩, p3, p4⟩ := hall l[i] (List.getElem_mem hil)
    have q1 : holds (l[i].id < 9223372036854775808) = true := holds_mk (by omega)
    have q2 : holds (l[i].slot < 9223372036854775808) = true := holds_mk (by omega)
    have z1 := lit_size l[i].id 1
    have z2 := lit_size l[i].slot 2
    have z3 : (s ++ litV l[i].id 1).size = s.size + 1 := by rw [ByteArray.size_append, z1]
    simp (disch := first | omega | rfl) only [drop_encSe l i hil, w1, q1, q2, z1, z2, z3, decide_true, dT, Int.toNat_natCast, List.length_cons, List.headD_cons, List.tail_cons, List.drop_zero, List.drop_succ_cons, PV.isStr, PV.asStr, PV.isSl, PV.slN, PV.slL, PV.isInt, PV.asInt, PV.isBool, PV.asBool, ble1, ble2, ble3, ble4, ble5, ble6, blt0, wrap1, Bool.and_true, Bool.true_and] at tree
    have := ih (i + 1) (s ++ litV l[i].id 1 ++ litV l[i].slot 2) (by omega) (by rw [ByteArray.size_append, z3, z2]; omega)
    rw [List.drop_eq_getElem_cons hil]
    exact .step _ _ _ tree this
theorem ok_cab2 : EntriesOk Try.prog cab2 := ⟨ok_STopOk, ok_fix, ok_SSt, trivial⟩
theorem seatsTxt_size : ∀ (l : List SeT) (s : ByteArray), (seatsTxt s l).size = s.size + 3 * l.length
  | [], s => rfl
  | x :: t, s => by
    unfold seatsTxt
    rw [seatsTxt_size t, ByteArray.size_append, ByteArray.size_append, lit_size, lit_size, List.length_cons]
    omega
theorem head_size (b c : Int) (l : List SeT) : (headT b c l).size = 6 := by
  unfold headT
  rw [ByteArray.size_append, ByteArray.size_append, lit_size, lit_size, lit_size]
theorem topB_inv {a b c : Int} {l : List SeT} (h : topB a b c l = true) : (1 ≤ a ∧ a ≤ 2000000000) ∧ (1 ≤ b ∧ b ≤ 64) ∧ (0 ≤ c ∧ c ≤ 2000000000) ∧ seatsB l = true := by
  unfold topB inB at h
  simp only [Bool.and_eq_true, decide_eq_true_eq] at h
  exact ⟨h.1.1.1, h.1.1.2, h.1.2, h.2⟩
theorem ok_SPut : EntryOk Try.prog 22 E_SPut := entry_of mix ok_cab2 (lp := lp_SPut) (LO := LO_SPut) ⟨Try.func22, by kernel_rfl, by kernel_rfl⟩ (by kernel_rfl) fun ivs res bxs h => by
  unfold E_SPut at h
  split at h
  · rename_i a b c n l
    obtain ⟨hc, he⟩ := pick1 h
    cases he
    obtain ⟨t, q_t, h_t⟩ := isE_inv hc
    injection q_t with qa qb
    subst qa
    subst qb
    have e_t : asSes (.sl _ _) = t := asSes_mk t
    have e_t2 : asSes (pSes t) = t := asSes_mk t
    have i_t2 : isSes (pSes t) = true := hc
    refine ⟨?_, (q_SPut_eq a b c t).trans ?_⟩
    · refine oneLoop 5 (by kernel_rfl) (by kernel_rfl) (by kernel_rfl) ?_
      intro ls e ls' hl
      replace hl : pickA (LO_SPut 5 ls) = some (e, ls') := hl
      unfold LO_SPut at hl
      split at hl
      · rename_i x a b c p s i
        obtain ⟨hc, he⟩ := pick1 hl
        cases he
        obtain ⟨hc, k4⟩ := andE hc
        obtain ⟨hc, k3⟩ := andE hc
        obtain ⟨hc, k2⟩ := andE hc
        obtain ⟨k0, k1⟩ := andE hc
        obtain ⟨l, rfl, h_l⟩ := isE_inv k0
        have e_l : asSes (pSes l) = l := asSes_mk l
        rw [e_l] at k3 ⊢
        obtain rfl := Nat.eq_of_beq_eq_true k1
        obtain rfl := eq_of_beq k2
        have h4 := holds_inv k4
        exact SPut_loop a b c l h_l k3 l.length 0 s (by omega) (by omega)
      · cases hl
    · rw [e_t, hc]
      unfold putV
      cases hT : topB a b c t with
      | false => rfl
      | true =>
        obtain ⟨⟨a1, a2⟩, ⟨b1, b2⟩, ⟨c1, c2⟩, hS⟩ := topB_inv hT
        obtain ⟨h64, _⟩ := seatsB_inv hS
        have q1 : holds (b < 9223372036854775808) = true := holds_mk (by omega)
        have q2 : holds (c < 9223372036854775808) = true := holds_mk (by omega)
        have q3 : holds (a < 9223372036854775808) = true := holds_mk (by omega)
        have q4 : holds ((t.length : Int) < 9223372036854775808) = true := holds_mk (by omega)
        have hz : (litV b 1 ++ litV c 4 ++ litV (t.length : Int) 1).size = 6 := head_size b c t
        have q5 : holds ((litV b 1 ++ litV c 4 ++ litV (t.length : Int) 1).size ≤ 10) = true := holds_mk (by rw [hz]; decide)
        have q6 : holds ((litV a 4).size ≤ 1000000) = true := holds_mk (by rw [lit_size]; decide)
        have q7 : holds ((seatsTxt (litV b 1 ++ litV c 4 ++ litV (t.length : Int) 1) t).size ≤ 1000000) = true := holds_mk (by rw [seatsTxt_size, hz]; omega)
        have z1 := lit_size b 1
        have z2 := lit_size c 4
        have z3 : (litV b 1 ++ litV c 4).size = 5 := by rw [ByteArray.size_append, z1, z2]
        have z4 := lit_size (t.length : Int) 1
        rw [hS, q1, q2, q3, q4, q5, q6, q7, z1, z2, z3, z4, dT (show 0 ≤ b by omega), dT c1, dT (show 0 ≤ a by omega), dT (show (0 : Int) ≤ (t.length : Int) by omega), hidS_eq]
        rfl
  · cases h
theorem range_ok (d : ByteArray) (n : Nat) : seatsOf d (n + 1) = seatsOf d n ++ [seatAt d n] := by
  unfold seatsOf
  rw [List.range_succ, List.map_append]
  rfl
theorem seatsOf_len (d : ByteArray) (n : Nat) : (seatsOf d n).length = n := by unfold seatsOf; rw [List.length_map, List.length_range]
theorem numV_small (s : ByteArray) (h : s.size ≤ 6) : 0 ≤ numV s ∧ numV s < 281474976710656 := by
  unfold numV
  have := numL_small s.data.toList (by rw [len_toList]; exact h)
  omega
theorem seatAt_sh (d : ByteArray) (i : Nat) : shSe (seatAt d i) := by
  have h1 := numV_small (d.extract (6 + 3 * i) (7 + 3 * i)) (by rw [ByteArray.size_extract]; omega)
  have h2 := numV_small (d.extract (7 + 3 * i) (9 + 3 * i)) (by rw [ByteArray.size_extract]; omega)
  unfold shSe seatAt
  dsimp only
  omega
theorem seatsOf_sh (d : ByteArray) (n : Nat) (hn : n ≤ 100000) : shSes (seatsOf d n) := by
  refine ⟨by rw [seatsOf_len]; exact hn, fun x hx => ?_⟩
  unfold seatsOf at hx
  obtain ⟨i, _, rfl⟩ := List.mem_map.1 hx
  exact seatAt_sh d i
theorem cntV_lt (d : ByteArray) : cntV d < 256 := by
  have h := numL_lt (d.extract 5 6).data.toList
  have hz : (d.extract 5 6).data.toList.length ≤ 1 := by rw [len_toList, ByteArray.size_extract]; omega
  exact Nat.lt_of_lt_of_le h (Nat.le_trans (Nat.pow_le_pow_right (by decide) hz) (by decide))
theorem SGet_facts (d : ByteArray) (hd : d.size = 1692) (i : Nat) (hi : i < cntV d) : IntKind.wrap .i64 (3 * (i : Int)) = ((3 * i : Nat) : Int) ∧ IntKind.wrap .i64 (6 + ((3 * i : Nat) : Int)) = ((6 + 3 * i : Nat) : Int) ∧ IntKind.wrap .i64 (((6 + 3 * i : Nat) : Int) + 1) = ((7 + 3 * i : Nat) : Int) ∧ IntKind.wrap .i64 (((6 + 3 * i : Nat) : Int) + 3) = ((9 + 3 * i : Nat) : Int) ∧ IntKind.wrap .i64 ((i : Int) + 1) = ((i + 1 : Nat) : Int) := by
  have hc := cntV_lt d
  refine ⟨?_, ?_, ?_, ?_, ?_⟩ <;> (rw [wrapI (by omega) (by omega)]; omega)
theorem ext_small (d : ByteArray) (i j : Nat) (h : j ≤ i + 7) : (d.extract i j).size ≤ 7 := by rw [ByteArray.size_extract]; omega
theorem SGet_loop (s d : ByteArray) (a b c : Int) (hd : d.size = 1692) : ∀ (m i : Nat), m + i = cntV d → 0 < i →
    LoopsTo (rdB brC Try.prog cab3 lp_SGet LO_SGet Try.f10 6 []) [aS s, zT 2, aS d, bxL 7 a b c (seatsOf d i) false, aI i] (.exit 0, [aS s, zT 2, bxL 7 a b c (seatsOf d (cntV d)) false]) := by
  have hc := cntV_lt d
  have hn : numV (d.extract 5 6) = ((cntV d : Nat) : Int) := rfl
  have x1 := ext_small d 5 6 (by omega)
  intro m
  induction m with
  | zero =>
    intro i hi h0
    obtain rfl : i = cntV d := by omega
    refine .done _ _ ((r_SGet_eq s d a b c _ _).trans ?_)
    rw [hn, dF (show ¬ ((cntV d : Nat) : Int) < ((cntV d : Nat) : Int) by omega), dT x1, dT (show (6 : Int) ≤ (d.size : Int) by omega)]
    rfl
  | succ m ih =>
    intro i hi h0
    obtain ⟨w1, w2, w3, w4, w5⟩ := SGet_facts d hd i (by omega)
    have tree := r_SGet_eq s d a b c (seatsOf d i) i
    have x2 := ext_small d (6 + 3 * i) (7 + 3 * i) (by omega)
    have x3 := ext_small d (7 + 3 * i) (9 + 3 * i) (by omega)
    rw [hn, w1, w2, w3, w4, w5, Int.toNat_natCast, Int.toNat_natCast, Int.toNat_natCast, seatsOf_len, dT x1, dT x2, dT x3] at tree
    simp (disch := omega) only [dT, Bool.and_true, List.length_cons, List.length_nil] at tree
    have e : encSe (seatsOf d i) ++ [PV.int .i64 (numV (d.extract (6 + 3 * i) (7 + 3 * i))), PV.int .i64 (numV (d.extract (7 + 3 * i) (9 + 3 * i)))] = encSe (seatsOf d (i + 1)) := by
      rw [range_ok, encSe_app]; rfl
    rw [e] at tree
    have := ih (i + 1) (by omega) (by omega)
    unfold bxL at this
    rw [seatsOf_len d (i + 1)] at this
    exact .step _ _ _ tree this
theorem SGet_first (s d : ByteArray) (a b c : Int) (hd : d.size = 1692) (h0 : 0 < cntV d) :
    LoopsTo (rdB brC Try.prog cab3 lp_SGet LO_SGet Try.f10 6 []) [aS s, zT 2, aS d, bxN 7 a b c, aI 0] (.exit 0, [aS s, zT 2, bxL 7 a b c (seatsOf d (cntV d)) false]) := by
  have hc := cntV_lt d
  have hn : numV (d.extract 5 6) = ((cntV d : Nat) : Int) := rfl
  obtain ⟨w1, w2, w3, w4, w5⟩ := SGet_facts d hd 0 h0
  have tree := r_SGet0_eq s d a b c ((0 : Nat) : Int)
  have x1 := ext_small d 5 6 (by omega)
  have x2 := ext_small d (6 + 3 * 0) (7 + 3 * 0) (by omega)
  have x3 := ext_small d (7 + 3 * 0) (9 + 3 * 0) (by omega)
  rw [hn, w1, w2, w3, w4, w5, Int.toNat_natCast, Int.toNat_natCast, Int.toNat_natCast, dT x1, dT x2, dT x3] at tree
  simp (disch := omega) only [dT, Bool.and_true] at tree
  have := SGet_loop s d a b c hd (cntV d - 1) 1 (by omega) (by omega)
  exact .step _ _ _ tree this
theorem ok_cab3 : EntriesOk Try.prog cab3 := ⟨ok_SPut, ok_l18Num, ok_SUn, trivial⟩
theorem ok_SGet : EntryOk Try.prog 10 E_SGet := entry_of mix ok_cab3 (lp := lp_SGet) (LO := LO_SGet) ⟨Try.func10, by kernel_rfl, by kernel_rfl⟩ (by kernel_rfl) fun ivs res bxs h => by
  unfold E_SGet at h
  split at h
  · rename_i s
    have loops : ∀ b ∈ loopsIn (bodyOf Try.f10), LoopOk Try.prog (tabL cab3) (OL lp_SGet) Try.f10.ntmps (pbOf []) LO_SGet b := by
      refine oneLoop 6 (by kernel_rfl) (by kernel_rfl) (by kernel_rfl) ?_
      intro ls e ls' hl
      replace hl : pickA (LO_SGet 6 ls) = some (e, ls') := hl
      unfold LO_SGet at hl
      split at hl
      · rename_i s x z1 z2 z3 d y a b c i
        have inv : (Nat.beq x 8192 && Nat.beq y 28672 && (i == 0) && (z1 == 0) && (z2 == 0) && (z3 == 0) && decide (d.size = 1692)) = true → x = 8192 ∧ y = 28672 ∧ i = 0 ∧ z1 = 0 ∧ z2 = 0 ∧ z3 = 0 ∧ d.size = 1692 := by
          intro hc
          simp only [Bool.and_eq_true, decide_eq_true_eq, beq_iff_eq] at hc
          obtain ⟨⟨⟨⟨⟨⟨k0, k1⟩, k2⟩, k3⟩, k4⟩, k5⟩, k6⟩ := hc
          exact ⟨Nat.eq_of_beq_eq_true k0, Nat.eq_of_beq_eq_true k1, k2, k3, k4, k5, k6⟩
        rcases pick2 hl with ⟨hc, he⟩ | ⟨hn, hc, he⟩
        · cases he
          obtain ⟨hc, k7⟩ := andE hc
          obtain ⟨rfl, rfl, rfl, rfl, rfl, rfl, hd⟩ := inv hc
          have h0 := Nat.eq_of_beq_eq_true k7
          have hnn : numV (d.extract 5 6) = ((cntV d : Nat) : Int) := rfl
          have x1 := ext_small d 5 6 (by omega)
          refine .done _ _ ((r_SGet0_eq s d a b c 0).trans ?_)
          rw [hnn, dF (show ¬ (0 : Int) < ((cntV d : Nat) : Int) by omega), dT x1, dT (show (6 : Int) ≤ (d.size : Int) by omega)]
          rfl
        · cases he
          obtain ⟨rfl, rfl, rfl, rfl, rfl, rfl, hd⟩ := inv hc
          have h0 : 0 < cntV d := by
            rcases Nat.eq_zero_or_pos (cntV d) with h | h
            · rw [hc, h] at hn; cases hn
            · exact h
          exact SGet_first s d a b c hd h0
      · cases hl
    have main : s.size ≤ 2000000 → q_SGet brC s = if okG s = true then (if cntV (midG s) = 0 then some (.tup [.agg [.pv (.int .i64 (seqG s)), .pv (.int .i64 (rootG s)), .pv (.int .i64 (countG s)), .pv .nils], cB true], []) else some (.tup [.agg [.pv (.int .i64 (seqG s)), .pv (.int .i64 (rootG s)), .pv (.int .i64 (countG s)), .pv (pSes (seatsG s))], cB true], [])) else some (.tup [.agg [.pv (.int .i64 0), .pv (.int .i64 0), .pv (.int .i64 0), .pv .nils], cB false], []) := by
      intro hs
      refine (q_SGet_eq s).trans ?_
      unfold okG
      cases hu : unV s 4 with
      | false =>
        rw [dT hs]
        rfl
      | true =>
        by_cases hz : s.size = 1700
        · have hm : (s.extract 4 (s.size - 4)).size = 1692 := by rw [ByteArray.size_extract]; omega
          have x1 := ext_small s 0 4 (by omega)
          have x2 := ext_small (s.extract 4 (s.size - 4)) 0 1 (by omega)
          have x3 := ext_small (s.extract 4 (s.size - 4)) 1 5 (by omega)
          rw [show ((s.size : Int) != 1700) = false by rw [hz]; rfl, dT hs, dT hm, dT x1, dT x2, dT x3, dT (show (1 : Int) ≤ ((s.extract 4 (s.size - 4)).size : Int) by omega), dT (show (5 : Int) ≤ ((s.extract 4 (s.size - 4)).size : Int) by omega), dT hz]
          show brC _ _ _ = _
          rw [show s.extract 4 (s.size - 4) = midG s from rfl, show numV (s.extract 0 4) = seqG s from rfl, show numV ((midG s).extract 0 1) = rootG s from rfl, show numV ((midG s).extract 1 5) = countG s from rfl, show seatsOf (midG s) (cntV (midG s)) = seatsG s from rfl]
          have i1 : isSes (.sl (seatsG s).length (encSe (seatsG s))) = true := isSes_mk (seatsOf_sh _ _ (by have := cntV_lt (midG s); omega))
          have a1 : asSes (.sl (seatsG s).length (encSe (seatsG s))) = seatsG s := asSes_mk (seatsG s)
          have i0 : isSes (.sl 0 []) = true := isSes_mk shSes_nil
          have a0 : asSes (.sl 0 []) = [] := asSes_mk []
          rw [i1, a1, i0, a0]
          by_cases h0 : cntV (midG s) = 0
          · have hse : seatsG s = [] := by unfold seatsG; rw [h0]; rfl
            rw [h0, if_pos rfl, hse]
            cases hq : (putV (seqG s) (rootG s) (countG s) []).toList == s.toList <;> rfl
          · rw [if_neg h0, show Nat.beq (cntV (midG s)) 0 = false from by rw [Bool.eq_false_iff]; exact fun h => h0 (Nat.eq_of_beq_eq_true h)]
            cases hq : (putV (seqG s) (rootG s) (countG s) (seatsG s)).toList == s.toList <;> rfl
        · rw [show ((s.size : Int) != 1700) = true from bne_iff_ne.2 (by omega), dT hs, dF hz]
          rfl
    rcases pick3n h with ⟨hc, he⟩ | ⟨hn, hc, he⟩ | ⟨hn, hn2, hc, he⟩
    · cases he
      obtain ⟨hc, k2⟩ := andE hc
      obtain ⟨k0, k1⟩ := andE hc
      exact ⟨loops, (main (of_decide_eq_true k0)).trans ((if_pos k1).trans (if_pos (Nat.eq_of_beq_eq_true k2)))⟩
    · cases he
      obtain ⟨k0, k1⟩ := andE hc
      have h0 : ¬ cntV (midG s) = 0 := fun h => by rw [k0, k1, h] at hn; cases hn
      exact ⟨loops, (main (of_decide_eq_true k0)).trans ((if_pos k1).trans (if_neg h0))⟩
    · cases he
      have k1 : ¬ okG s = true := fun h => by rw [hc, h] at hn2; cases hn2
      exact ⟨loops, (main (of_decide_eq_true hc)).trans (if_neg k1)⟩
  · cases h
end Go.Proofs.Ytdegegajoccdjaa
