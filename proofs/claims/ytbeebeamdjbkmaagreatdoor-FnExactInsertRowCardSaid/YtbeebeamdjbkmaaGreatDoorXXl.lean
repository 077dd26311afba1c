import Derived.Test.YtbeebeamdjbkmaaGreatDoorXXk
import Derived.Test.YtbeebeamdjbkmaaGreatDoorXXj
namespace Go.Proofs.YtbeebeamdjbkmaaGreatDoor
noncomputable section
set_option linter.unusedVariables false
set_option linter.unusedSimpArgs false
set_option maxRecDepth 100000
section
open Go.RowKit
theorem ju5 : jab Tryz.prog 80 E_in1 := jac mix (tab := []) trivial (lp := []) (LO := LO0) ⟨Tryz.func80, by kernel_rfl, by kernel_rfl⟩ (by kernel_rfl) fun ivs res bxs h => by
 unfold E_in1 at h
 split at h
 ·rename_i p q
  obtain ⟨hc, he⟩ := pick1 h
  cases he
  obtain ⟨hc, g3⟩ := andE hc
  obtain ⟨hc, g2⟩ := andE hc
  obtain ⟨g0, g1⟩ := andE hc
  obtain ⟨x, rfl, h_x⟩ := jae g0
  obtain ⟨c, rfl, h_c⟩ := jae g1
  have e_x : asN (pN x) = x := jbn x
  have e_c : asL (pL c) = c := jad c
  rw [e_x] at g2
  rw [e_c] at g3
  rw [e_x, e_c, jde]
  refine ⟨jam (by kernel_rfl), (jrP x c).trans ?_⟩
  unfold isK
  obtain ⟨u, hu⟩ : ∃ u, x.subs = u := ⟨_, rfl⟩
  rw [hu] at g2 ⊢
  match u, g2, c, g3 with
  | [a, d], _, y :: r, _ =>
   have q1 : decide ((0 : Int) < ((PV.slN (List.headD [pL (y :: r)] PV.nilp) : Nat) : Int)) = true := dT (show (0 : Int) < (((y :: r).length : Nat) : Int) by rw [nqH]; omega)
   rw [q1]
   rfl
 ·cases h
theorem jpZ : jaf Tryz.prog sib0 := ⟨ju5, trivial⟩
theorem jo1 (t : List NodeT) (h : shT t) (hn : nodR t = true) (c : List ByteArray) (hc : shL c) (h1 : 1 ≤ c.length) : ∀ (m i : Nat), m + i = t.length → LoopsTo (rdB brC Tryz.prog sib0 jfc jd1 Tryz.f112 2 []) [aP (pNs t), aP (icl c), aI t.length, aI i]
  (if atV (t.drop i) (fstS c) + i < t.length then (.ret, [aI ((atV (t.drop i) (fstS c) + i : Nat) : Int)]) else (.exit 0, [aX])) := by
 have hl := h.1
 intro m
 induction m with
 | zero =>
  intro i hm
  obtain rfl : i = t.length := by omega
  rw [List.drop_length, show atV [] (fstS c) = 0 from rfl, if_neg (by omega)]
  refine .done _ _ ((ji7 t c t.length).trans ?_)
  rw [dF (by omega)]
  rfl
 | succ m ih =>
  intro i hm
  have hi : i < t.length := by omega
  have hs := jdG h hi
  have ih' := ih (i + 1) (by omega)
  have tree := ji7 t c i
  obtain ⟨a, d, hsb, _, _⟩ := jnU hn hi
  have h2 : t[i].subs.length = 2 := by rw [hsb]; rfl
  have e2 : isE pL shL (pL c) = true := jai hc
  have e3 : asE pL (pL c) = c := jad c
  simp (disch := omega) only [dT, nqF, jaW t i hi, nqH, List.headD_cons, List.tail_cons, PV.isStr, PV.asStr, PV.isSl, PV.slN, PV.slL, ble3, wrap1, Bool.and_true, Bool.true_and, isN, asN, isL, asL, jey hs, jbn, e2, e3] at tree
  rw [nqK hi, jlO]
  cases hin : isK (fstS c) t[i] with
  | true =>
   rw [hin] at tree
   rw [if_pos rfl, if_pos (by omega), Nat.zero_add]
   exact .done _ _ tree
  | false =>
   rw [hin] at tree
   rw [if_neg Bool.false_ne_true]
   rw [show atV (t.drop (i + 1)) (fstS c) + (i + 1) = atV (t.drop (i + 1)) (fstS c) + 1 + i by omega] at ih'
   exact .step _ _ _ tree ih'
theorem jtr : jab Tryz.prog 112 E_IdxK := jac mix jpZ (lp := jfc) (LO := jd1) ⟨Tryz.func112, by kernel_rfl, by kernel_rfl⟩ (by kernel_rfl) fun ivs res bxs h => by
 unfold E_IdxK at h
 split at h
 ·rename_i p f q
  obtain ⟨hc, he⟩ := pick1 h
  cases he
  obtain ⟨hc, g4⟩ := andE hc
  obtain ⟨hc, g3⟩ := andE hc
  obtain ⟨hc, g2⟩ := andE hc
  obtain ⟨g0, g1⟩ := andE hc
  obtain ⟨t, rfl, ht⟩ := jae g0
  obtain ⟨c, rfl, hx⟩ := jae g1
  obtain rfl := nqB g2
  have e_t : asNs (pNs t) = t := jas t
  have e_c : asL (pL c) = c := jad c
  rw [e_t] at g3
  rw [e_c] at g4
  refine ⟨jar 2 (by kernel_rfl) (by kernel_rfl) (by kernel_rfl) ?_, (jnJ t c).trans ?_⟩
  ·intro ls e ls' hl
   unfold jd1 at hl
   split at hl
   ·rename_i p f q n i
    have key : (isNs p && isL q && Nat.beq f 80 && (n == ((asNs p).length : Int)) && (i == 0) && nodR (asNs p) && decide (1 ≤ (asL q).length)) = true → LoopsTo (rdB brC Tryz.prog sib0 jfc jd1 Tryz.f112 2 []) [aP p, aP (.clo f [.ref [q]]), aI n, aI i] (if atV (asNs p) (fstS (asL q)) < (asNs p).length then (.ret, [aI (atV (asNs p) (fstS (asL q)))]) else (.exit 0, [aX])) := fun hc => by
     obtain ⟨hc, g6⟩ := andE hc
     obtain ⟨hc, g5⟩ := andE hc
     obtain ⟨hc, g4⟩ := andE hc
     obtain ⟨hc, g3⟩ := andE hc
     obtain ⟨hc, g2⟩ := andE hc
     obtain ⟨g0, g1⟩ := andE hc
     obtain ⟨t, rfl, ht⟩ := jae g0
     obtain ⟨c, rfl, hx⟩ := jae g1
     have e_t : asNs (pNs t) = t := jas t
     have e_c : asL (pL c) = c := jad c
     rw [e_t] at g3 g5
     rw [e_c] at g6
     rw [e_t, e_c, nqB g2, eq_of_beq g3, eq_of_beq g4]
     exact jo1 t ht g5 c hx (nqI g6) t.length 0 rfl
    rcases pick2 hl with ⟨hc, he⟩ | ⟨hn, hc, he⟩
    ·cases he
     obtain ⟨hc, g⟩ := andE hc
     have := key hc
     rw [if_pos (nqI g)] at this
     exact this
    ·cases he
     have := key hc
     rw [hc, Bool.true_and, decide_eq_false_iff_not] at hn
     rw [if_neg hn] at this
     exact this
   ·cases hl
  ·have i1 : isE pNs shT (pNs t) = true := jbe ht
   have i2 : isE pL shL (pL c) = true := jai hx
   simp only [isNs, isL, i1, i2, e_t, e_c, g3, g4, beq_self_eq_true, Bool.and_true, Bool.true_and, Nat.beq_refl]
   by_cases hlt : atV t (fstS c) < t.length
   ·rw [dT hlt, if_pos hlt]
    rfl
   ·rw [dF hlt, if_neg hlt]
    rfl
 ·cases h
theorem jtX : jaf Tryz.prog sib1 := ⟨jtr, jpZ⟩
theorem jqM : jab Tryz.prog 79 E_ContK := jac mix jtX (lp := []) (LO := LO0) ⟨Tryz.func79, by kernel_rfl, by kernel_rfl⟩ (by kernel_rfl) fun ivs res bxs h => by
 unfold E_ContK at h
 split at h
 ·rename_i p f q
  obtain ⟨hc, he⟩ := pick1 h
  cases he
  obtain ⟨hc, g4⟩ := andE hc
  obtain ⟨hc, g3⟩ := andE hc
  obtain ⟨hc, g2⟩ := andE hc
  obtain ⟨g0, g1⟩ := andE hc
  obtain ⟨t, rfl, ht⟩ := jae g0
  obtain ⟨c, rfl, hx⟩ := jae g1
  obtain rfl := nqB g2
  have e_t : asNs (pNs t) = t := jas t
  have e_c : asL (pL c) = c := jad c
  rw [e_t] at g3
  rw [e_c] at g4
  have tree := jmo t c
  have i1 := jbe ht
  have a1 := jas t
  have i2 : isE pL shL (pL c) = true := jai hx
  have a2 : asE pL (pL c) = c := jad c
  simp only [isNs, asNs, isL, asL, i1, a1, i2, a2, g3, g4, Nat.beq_refl, Bool.and_true, Bool.true_and] at tree
  rw [e_t, e_c]
  refine ⟨jam (by kernel_rfl), tree.trans ?_⟩
  by_cases hlt : atV t (fstS c) < t.length
  ·rw [if_pos hlt, dT hlt, dT (show ((atV t (fstS c) : Nat) : Int) ≥ 0 by omega)]
   rfl
  ·rw [if_neg hlt, dF hlt, dF (show ¬ (-1 : Int) ≥ 0 by omega)]
   rfl
 ·cases h
theorem jtG : jaf Tryz.prog sib2 := ⟨joH, trivial⟩
theorem jnt : jab Tryz.prog 64 E_rnode1 := jac mix jtG (lp := [(1000000, [15], [22])]) (LO := LO0) ⟨Tryz.func64, by kernel_rfl, by kernel_rfl⟩ (by kernel_rfl) fun ivs res bxs h => by
 unfold E_rnode1 at h
 split at h
 ·rename_i p k q
  obtain ⟨hc, he⟩ := pick1 h
  cases he
  obtain ⟨hc, g4⟩ := andE hc
  obtain ⟨hc, g3⟩ := andE hc
  obtain ⟨hc, g2⟩ := andE hc
  obtain ⟨g0, g1⟩ := andE hc
  obtain ⟨b, rfl, h_b⟩ := jay g0
  obtain ⟨l, rfl, h_l⟩ := jae g1
  have e_b : asTb (pTb b) = b := jap b
  have e_l : asL (pL l) = l := jad l
  rw [e_l] at g3 g4
  rw [e_b, e_l, jde, jlE]
  obtain rfl := eq_of_beq g2
  have tree := jkJ b l
  have i1 : isE pRw shL (PV.agg [PV.sl l.length (l.map PV.str)]) = true := ja9 (enc := pRw) h_l
  have a1 : asE pRw (PV.agg [PV.sl l.length (l.map PV.str)]) = l := jbZ l
  simp only [isRw, asRw, i1, a1, g3, g4, Bool.and_true, Bool.true_and] at tree
  refine ⟨jam (by kernel_rfl), tree.trans ?_⟩
  match l, g3 with
  | x :: t, g3 =>
   rw [dT (show (0 : Int) < ((x :: t).length : Int) by rw [nqH]; omega)]
   rfl
 ·cases h
theorem joU : jaf Tryz.prog sib3 := ⟨jmu, jim, jrY, jqM, jnt, juJ, trivial⟩
theorem jmF {cs : List ByteArray} {i : Nat} (h1 : 1 ≤ i) (hi : i < cs.length) : packL (cs.take (i + 1)) = (packL (cs.take i) ++ (if 1 < i then [94] else [])) ++ cs[i].data.toList := by
 match cs, i, h1, hi with
 | [_], i, h1, hi =>
  have : i < 1 := hi
  omega
 | x :: y :: r, 1, _, _ =>
  show Lib.join [y.data.toList] [94] = (Lib.join [] [94] ++ (if 1 < 1 then [94] else [])) ++ y.data.toList
  rw [Lib.join_one, Lib.join_nil, if_neg (by omega)]
  rfl
 | x :: y :: r, k + 2, _, hi =>
  have hk : k < r.length := by simpa using hi
  have := Lib.joinTail_take_succ [94] (r.map (·.data.toList)) k r[k].data.toList (by rw [List.getElem?_map, List.getElem?_eq_getElem hk]; rfl)
  show Lib.join (y.data.toList :: (r.take (k + 1)).map (·.data.toList)) [94] = (Lib.join (y.data.toList :: (r.take k).map (·.data.toList)) [94] ++ (if 1 < k + 2 then [94] else [])) ++ r[k].data.toList
  rw [Lib.join_cons, Lib.join_cons, List.map_take, List.map_take, this, if_pos (by omega)]
  simp only [List.append_assoc]
theorem jeR {cs : List ByteArray} (h : allS cs = true) : ∀ x ∈ cs, x.size ≤ 20 := fun x hx => nqI (List.all_eq_true.1 h x hx)
theorem jsU (cs : List ByteArray) (hc : ∀ x ∈ cs, x.size ≤ 20) (hl : cs.length ≤ 12) : ∀ (m i : Nat) (t : ByteArray), m = cs.length - i → 1 ≤ i → t.size ≤ 30 * i → t = bs (packL (cs.take i)) →
  LoopsTo (rdB brC Tryz.prog [] lp_Pk LO_Pk Tryz.f94 3 []) [aBx 1 [.pv (pL cs)], aS t, aI i] (.exit 0, [aS (pkV cs)]) := by
 intro m
 induction m with
 | zero =>
  intro i t hm hi ht he
  rw [List.take_of_length_le (show cs.length ≤ i by omega)] at he
  rw [jlE, ← he]
  refine .done _ _ ((jqe cs t i).trans ?_)
  rw [dF (show ¬ (i : Int) < (cs.length : Int) by omega)]
  rfl
 | succ m ih =>
  intro i t hm hi ht he
  have hi' : i < cs.length := by omega
  have tree := jqe cs t i
  have hz := hc cs[i] (List.getElem_mem hi')
  have a1 := jhy t ⟨#[94]⟩
  have a2 : (⟨#[94]⟩ : ByteArray).size = 1 := rfl
  have hst := jmF hi hi'
  by_cases h1 : 1 < i
  ·rw [dT (show (i : Int) > 1 by omega)] at tree
   simp (disch := omega) only [dT, nqF, jao cs i hi', nqH, List.headD_cons, PV.isStr, PV.asStr, blt0, wrap1, Bool.and_true, Bool.true_and] at tree
   rw [if_pos h1] at hst
   exact .step _ _ _ tree (ih (i + 1) _ (by omega) (by omega) (by rw [jhy]; omega) (by
    rw [hst, ← jfF, ← jfF, ← he, jcl]
    rfl))
  ·rw [dF (show ¬ (i : Int) > 1 by omega)] at tree
   simp (disch := omega) only [dT, nqF, jao cs i hi', nqH, List.headD_cons, PV.isStr, PV.asStr, blt0, wrap1, Bool.and_true, Bool.true_and] at tree
   rw [if_neg h1, List.append_nil] at hst
   exact .step _ _ _ tree (ih (i + 1) _ (by omega) (by omega) (by rw [jhy]; omega) (by rw [hst, ← jfF, ← he, jcl]))
theorem ok_Pk : jab Tryz.prog 94 E_Pk := jac mix (tab := []) trivial (lp := lp_Pk) (LO := LO_Pk) ⟨Tryz.func94, by kernel_rfl, by kernel_rfl⟩ (by kernel_rfl) fun ivs res bxs h => by
 unfold E_Pk at h
 split at h
 ·rename_i q
  obtain ⟨hc, he⟩ := pick1 h
  cases he
  obtain ⟨hc, h3⟩ := andE hc
  obtain ⟨h1, h2⟩ := andE hc
  obtain ⟨cs, rfl, hs⟩ := jae h1
  have e5 : asL (pL cs) = cs := jad cs
  rw [e5] at h2 h3 ⊢
  refine ⟨jar 3 (by kernel_rfl) (by kernel_rfl) (by kernel_rfl) ?_, (jsG cs).trans ?_⟩
  ·intro ls e ls' hl
   unfold LO_Pk at hl
   split at hl
   ·rename_i x p t i
    obtain ⟨hc, he⟩ := pick1 hl
    cases he
    obtain ⟨hc, g5⟩ := andE hc
    obtain ⟨hc, g4⟩ := andE hc
    obtain ⟨hc, g3⟩ := andE hc
    obtain ⟨hc, g2⟩ := andE hc
    obtain ⟨g0, g1⟩ := andE hc
    obtain ⟨ys, rfl, hy⟩ := jae g0
    have e1 : asL (pL ys) = ys := jad ys
    rw [e1] at g4 g5 ⊢
    rw [nqB g1, eq_of_beq g2]
    have ht : t = ⟨#[]⟩ := jid (by have := nqI g3; omega)
    refine jsU ys (jeR g5) (nqI g4) (ys.length - 1) 1 t rfl (Nat.le_refl _) (by have := nqI g3; omega) ?_
    rw [ht]
    match ys with
    | [] => rfl
    | [_] => rfl
    | _ :: _ :: _ => rfl
   ·cases hl
  ·have f1 : isL (pL cs) = true := jai hs
   rw [f1, e5, h2, h3]
   rfl
 ·cases h
theorem jhe {l : List ByteArray} (hc : ∀ x ∈ l, x.size ≤ 20) (hl : l.length ≤ 12) : (pkV l).size ≤ 1048576 := by
 rw [jlE, jir]
 unfold packL
 have := jio ((l.drop 1).map (·.data.toList)) 20 (fun p hp => by
  obtain ⟨x, hx, rfl⟩ := List.mem_map.1 hp
  have := hc x (List.mem_of_mem_drop hx)
  rw [← jal]
  exact this)
 rw [List.length_map, List.length_drop] at this
 omega
theorem jt4 : jaf Tryz.prog sis0 := ⟨ok_Pk, trivial⟩
theorem jua : jab Tryz.prog 59 E_lset := jbH mix jt4 (lp := []) (LO := LO0) ⟨Tryz.func59, by kernel_rfl, by kernel_rfl⟩ (by kernel_rfl) fun ivs res bxs h => by
 unfold E_lset at h
 split at h
 ·rename_i p q
  obtain ⟨hc, he⟩ := pick1 h
  cases he
  obtain ⟨hc, g4⟩ := andE hc
  obtain ⟨hc, g3⟩ := andE hc
  obtain ⟨hc, g2⟩ := andE hc
  obtain ⟨g0, g1⟩ := andE hc
  obtain ⟨b, rfl, h_b⟩ := jay g0
  obtain ⟨l, rfl, h_l⟩ := jae g1
  have e_b : asTb (pTb b) = b := jap b
  have e_l : asL (pL l) = l := jad l
  rw [e_l] at g2 g3 g4
  rw [e_b, e_l, jde]
  have tree := jpC b l
  have i1 := jai h_l
  have a1 := jad l
  simp only [isL, asL, i1, a1, g2, g3, g4, Bool.and_true, Bool.true_and] at tree
  refine ⟨jam (by kernel_rfl), ?_⟩
  match l, g4 with
  | x :: t, g4 =>
   rw [dT (show (0 : Int) < ((x :: t).length : Int) by rw [nqH]; omega)] at tree
   exact ⟨_, tree, rfl, rfl⟩
 ·cases h
theorem js0 : jaf Tryz.prog sis1 := ⟨jua, jvl, trivial⟩
theorem jpd (b : TblT) (l : List ByteArray) (hb : shTb b) (hl : shL l) (ho : b.idxs.all (okC b l) = true) : ∀ (m i : Nat) (u : List ChT), m + i = b.idxs.length → u.length ≤ i + 1 →
  LoopsTo (rdB brC Tryz.prog sis1 jfq jeb Tryz.f77 3 []) [bxTb 2 b, bxRw 3 l, aFc 5 u, aI i] (.exit 0, [aFc 5 (u ++ chIs 1 b l (b.idxs.drop i))]) := by
 have hlen := hb.2.2.2.1
 intro m
 induction m with
 | zero =>
  intro i u hm hu
  rw [List.drop_eq_nil_of_le (show b.idxs.length ≤ i by omega), show chIs 1 b l [] = [] from rfl, List.append_nil]
  refine .done _ _ ((jiC b l u i).trans ?_)
  rw [dF (by omega)]
  rfl
 | succ m ih =>
  intro i u hm hu
  have hi : i < b.idxs.length := by omega
  have tree := jiC b l u i
  have hc := List.all_eq_true.1 ho _ (List.getElem_mem hi)
  have i1 := jbi hb
  have a1 := jap b
  have i2 := jai hl
  have a2 := jad l
  have hk := jhl 1 b l b.idxs[i]
  have hq : (u ++ chI 1 b l b.idxs[i]).length ≤ 1048577 := by rw [nqG]; omega
  simp (disch := omega) only [isTb, asTb, isL, asL, i1, a1, i2, a2, dT, nqF, jao b.idxs i hi, nqH, List.headD_cons, PV.isStr, PV.asStr, blt0, hc, wrap1, jlh, Nat.beq_refl, ← jgZ, ← nqG, Bool.and_true, Bool.true_and] at tree
  have := ih (i + 1) (u ++ chI 1 b l b.idxs[i]) (by omega) (by rw [nqG]; omega)
  rw [nqK hi, show chIs 1 b l (b.idxs[i] :: b.idxs.drop (i + 1)) = chI 1 b l b.idxs[i] ++ chIs 1 b l (b.idxs.drop (i + 1)) from rfl, ← List.append_assoc]
  exact .step _ _ _ tree this
theorem jnm : ∀ b ∈ jat (jaY Tryz.f77), ja2 Tryz.prog (tabL sis1) (OL jfq) Tryz.f77.ntmps (pbOf []) jeb b := by
 refine jar 3 (by kernel_rfl) (by kernel_rfl) (by kernel_rfl) ?_
 intro ls e ls' hl
 unfold jeb at hl
 split at hl
 ·rename_i x s g q r y u z e n l i
  obtain ⟨hc, he⟩ := pick1 hl
  cases he
  obtain ⟨hc, g9⟩ := andE hc
  obtain ⟨hc, g8⟩ := andE hc
  obtain ⟨hc, g7⟩ := andE hc
  obtain ⟨hc, g6⟩ := andE hc
  obtain ⟨hc, g5⟩ := andE hc
  obtain ⟨hc, g4⟩ := andE hc
  obtain ⟨hc, g3⟩ := andE hc
  obtain ⟨hc, g2⟩ := andE hc
  obtain ⟨g0, g1⟩ := andE hc
  obtain ⟨b, rfl, rfl, rfl, rfl, hb⟩ := jbW g0
  obtain ⟨w, rfl, h_w⟩ := jae g1
  obtain ⟨c, q_c, h_c⟩ := jae g2
  injection q_c with qa qb
  subst qa
  subst qb
  have e_b : asTb (PV.agg [PV.str b.name, PV.str b.glob, pL b.cols, pL b.idxs]) = b := tbA b
  have e_w : asL (pL w) = w := jad w
  have e_c : asCs (.sl c.length (encC c)) = c := jbu c
  rw [e_b, e_w] at g8
  rw [e_b, e_w, e_c]
  obtain rfl := nqB g3
  obtain rfl := nqB g4
  obtain rfl := nqB g5
  obtain rfl := nqB g6
  obtain rfl := eq_of_beq g7
  have := jpd b w hb h_w g8 b.idxs.length 0 c (Nat.add_zero _) (by have := nqI g9; omega)
  rw [List.drop_zero] at this
  exact this
 ·cases hl
theorem jsO : jab Tryz.prog 77 E_lins := jbH mix js0 (lp := jfq) (LO := jeb) ⟨Tryz.func77, by kernel_rfl, by kernel_rfl⟩ (by kernel_rfl) fun ivs res bxs h => by
 unfold E_lins at h
 split at h
 ·rename_i p q
  obtain ⟨hc, he⟩ := pick1 h
  cases he
  obtain ⟨hc, g5⟩ := andE hc
  obtain ⟨hc, g4⟩ := andE hc
  obtain ⟨hc, g3⟩ := andE hc
  obtain ⟨hc, g2⟩ := andE hc
  obtain ⟨g0, g1⟩ := andE hc
  obtain ⟨b, rfl, h_b⟩ := jay g0
  obtain ⟨l, rfl, h_l⟩ := jae g1
  have e_b : asTb (pTb b) = b := jap b
  have e_l : asL (pL l) = l := jad l
  rw [e_l] at g2 g3 g4
  rw [e_b, e_l] at g5 ⊢
  have tree := jqb b l
  have i1 := jbi h_b
  have a1 := jap b
  have i2 : isE pL shL (pL l) = true := jai h_l
  have a2 : asE pL (pL l) = l := jad l
  have i3 := jai h_l
  have a3 := jad l
  have i4 := tbI h_b
  have a4 := tbA b
  have hS : shCs [(⟨1, b.glob, [⟨#[114]⟩, fstS l], pkV l⟩ : ChT)] := ⟨(by show 1 ≤ 1048576; omega), fun x hx => by
   obtain rfl := List.mem_singleton.1 hx
   exact ⟨h_b.2.1, ⟨(by show 2 ≤ 1048576; omega), fun y hy => by
    rcases List.mem_cons.1 hy with rfl | hy
    ·decide
    ·obtain rfl := List.mem_singleton.1 hy
     rw [jde]
     match l, g4 with
     | x :: r, _ => exact h_l.2 x (List.mem_cons_self ..)⟩, jhe (jeR g3) (nqI g2)⟩⟩
  have i5 : isE pCs shCs (PV.sl 1 [PV.int .i64 1, PV.str b.glob, PV.sl 2 [PV.str ⟨#[114]⟩, PV.str (fstS l)], PV.str (pkV l)]) = true := jd3 hS
  have a5 : asE pCs (PV.sl 1 [PV.int .i64 1, PV.str b.glob, PV.sl 2 [PV.str ⟨#[114]⟩, PV.str (fstS l)], PV.str (pkV l)]) = [⟨1, b.glob, [⟨#[114]⟩, fstS l], pkV l⟩] := jbu [(⟨1, b.glob, [⟨#[114]⟩, fstS l], pkV l⟩ : ChT)]
  simp (disch := omega) only [isTb, asTb, isL, asL, isCs, asCs, i1, a1, i2, a2, i3, a3, i4, a4, i5, a5, g2, g3, g4, g5, Nat.beq_refl, beq_self_eq_true, Bool.and_true, Bool.true_and] at tree
  rw [jkq]
  exact ⟨jnm, _, tree, rfl, rfl⟩
 ·cases h
theorem jgV : ∀ {l : List ByteArray}, 1 ≤ l.length → ∃ x r, l = x :: r
 | x :: r, _ => ⟨x, r, rfl⟩
theorem jjK {t : List NodeT} {b : TblT} {l : List ByteArray} (h : insC t b l = 0) : treeB t = true ∧ tblB b = true ∧ rowB b l = true ∧ ¬ atV (keepR t b) (fstS l) < (keepR t b).length ∧ ¬ 24 ≤ (keepR t b).length := by
 unfold insC at h
 cases hT : treeB t with
 | false => rw [hT] at h; cases h
 | true =>
  cases hB : tblB b with
  | false => rw [hT, hB] at h; cases h
  | true =>
   cases hR : rowB b l with
   | false => rw [hT, hB, hR] at h; cases h
   | true =>
    rw [hT, hB, hR] at h
    by_cases hA : atV (keepR t b) (fstS l) < (keepR t b).length
    ·rw [dT hA] at h; cases h
    ·by_cases h24 : 24 ≤ (keepR t b).length
     ·rw [dF hA, dT h24] at h; cases h
     ·exact ⟨rfl, rfl, rfl, hA, h24⟩
theorem jb5 {b : TblT} {l : List ByteArray} (hB : tblB b = true) (hR : rowB b l = true) : l.length = b.cols.length ∧ 1 ≤ l.length ∧ l.length ≤ 12 ∧ allS l = true ∧ 1 ≤ b.cols.length := by
 unfold tblB at hB
 obtain ⟨hB, hi⟩ := andE hB
 obtain ⟨hB, _⟩ := andE hB
 obtain ⟨hB, _⟩ := andE hB
 obtain ⟨hB, h5⟩ := andE hB
 obtain ⟨_, h1⟩ := andE hB
 have h5 := nqI h5
 have h1 := nqI h1
 unfold rowB at hR
 obtain ⟨hR, hc⟩ := andE hR
 obtain ⟨hR, _⟩ := andE hR
 have hR := nqI hR
 refine ⟨hR, by omega, by omega, List.all_eq_true.2 fun x hx => ?_, h1⟩
 have := List.all_eq_true.1 hc x hx
 unfold cellB at this
 have := nqI (andE this).1
 exact dT (by omega)
theorem jqr {l : List ByteArray} (hc : allS l = true) (hl : l.length ≤ 12) : (packL l).length ≤ 1048576 := by
 have := jhe (jeR hc) hl
 rw [jlE, jir] at this
 exact this
theorem jty : jab Tryz.prog 38 E_InsA := jac mix joU (lp := [(1000002, [32], [])]) (LO := LO0) ⟨Tryz.func38, by kernel_rfl, by kernel_rfl⟩ (by kernel_rfl) fun ivs res bxs h => by
 unfold E_InsA at h
 split at h
 ·rename_i p q r
  obtain ⟨hc, he⟩ := pick1 h
  cases he
  obtain ⟨hc, g3⟩ := andE hc
  obtain ⟨hc, g2⟩ := andE hc
  obtain ⟨g0, g1⟩ := andE hc
  obtain ⟨t, rfl, h_t⟩ := jae g0
  obtain ⟨b, rfl, h_b⟩ := jay g1
  obtain ⟨l, rfl, h_l⟩ := jae g2
  have e_t : asT (pT t) = t := jbt t
  have e_b : asTb (pTb b) = b := jap b
  have e_l : asL (pL l) = l := jad l
  rw [e_t, e_b, e_l] at g3
  rw [e_b, e_l]
  refine ⟨jam (by kernel_rfl), ?_⟩
  have tree := jlp t b l
  have i1 := jbi h_b
  have a1 := jap b
  have i2 := jiN h_t
  have a2 := jbt t
  have i3 := jai h_l
  have a3 := jad l
  have i4 : isE pL shL (pL l) = true := i3
  have a4 : asE pL (pL l) = l := a3
  have i5 : isE pRw shL (PV.agg [PV.sl l.length (l.map PV.str)]) = true := ja9 (enc := pRw) h_l
  have a5 : asE pRw (PV.agg [PV.sl l.length (l.map PV.str)]) = l := jbZ l
  have hk := jeV h_t b
  have i6 := jbe hk
  have a6 := jas (keepR t b)
  simp only [isT, asT, isTb, asTb, isL, asL, isRw, asRw, isNs, asNs, i1, a1, i2, a2, i3, a3, i4, a4, i5, a5, i6, a6, Nat.beq_refl, beq_self_eq_true, Bool.and_true, Bool.true_and] at tree
  obtain ⟨hT, hB, hR, hA, h24⟩ := jjK (eq_of_beq g3)
  obtain ⟨f1, f2, f3, f4, f5⟩ := jb5 hB hR
  have ho := jp3 hB f1
  have hN := jdm hT b
  have hcs := jeL 1 b l b.idxs
  have hil := h_b.2.2.2.1
  have hpk := jqr f4 f3
  simp (disch := omega) only [hT, hB, hR, hN, ho, dT, dF, f2, hpk, hA, h24, Bool.not_true, Bool.and_true, Bool.true_and, brTc, brFc] at tree
  rw [jkq, show ((⟨1, b.glob, [⟨#[114]⟩, fstS l], pkV l⟩ : ChT) :: chIs 1 b l b.idxs).length = 1 + (chIs 1 b l b.idxs).length by rw [nqH]; omega]
  exact tree.trans rfl
 ·cases h
theorem jt3 : jab Tryz.prog 38 E_InsB := jac mix joU (lp := [(1000002, [32], [])]) (LO := LO0) ⟨Tryz.func38, by kernel_rfl, by kernel_rfl⟩ (by kernel_rfl) fun ivs res bxs h => by
 unfold E_InsB at h
 split at h
 ·rename_i p q r
  obtain ⟨hc, he⟩ := pick1 h
  cases he
  obtain ⟨hc, g3⟩ := andE hc
  obtain ⟨hc, g2⟩ := andE hc
  obtain ⟨g0, g1⟩ := andE hc
  obtain ⟨t, rfl, h_t⟩ := jae g0
  obtain ⟨b, rfl, h_b⟩ := jay g1
  obtain ⟨l, rfl, h_l⟩ := jae g2
  have e_t : asT (pT t) = t := jbt t
  have e_b : asTb (pTb b) = b := jap b
  have e_l : asL (pL l) = l := jad l
  rw [e_t, e_b, e_l] at g3 ⊢
  refine ⟨jam (by kernel_rfl), ?_⟩
  have tree := jlp t b l
  have i1 := jbi h_b
  have a1 := jap b
  have i2 := jiN h_t
  have a2 := jbt t
  have i3 := jai h_l
  have a3 := jad l
  have i4 : isE pL shL (pL l) = true := i3
  have a4 : asE pL (pL l) = l := a3
  have i5 : isE pRw shL (PV.agg [PV.sl l.length (l.map PV.str)]) = true := ja9 (enc := pRw) h_l
  have a5 : asE pRw (PV.agg [PV.sl l.length (l.map PV.str)]) = l := jbZ l
  have hk := jeV h_t b
  have i6 := jbe hk
  have a6 := jas (keepR t b)
  simp only [isT, asT, isTb, asTb, isL, asL, isRw, asRw, isNs, asNs, i1, a1, i2, a2, i3, a3, i4, a4, i5, a5, i6, a6, Nat.beq_refl, beq_self_eq_true, Bool.and_true, Bool.true_and] at tree
  unfold insC at g3 ⊢
  cases hT : treeB t with
  | false => rw [hT] at tree; exact tree.trans rfl
  | true =>
   cases hB : tblB b with
   | false => rw [hT, hB] at tree; exact tree.trans rfl
   | true =>
    cases hR : rowB b l with
    | false => rw [hT, hB, hR] at tree; exact tree.trans rfl
    | true =>
     obtain ⟨f1, f2, f3, f4, f5⟩ := jb5 hB hR
     have hN := jdm hT b
     rw [hT, hB, hR] at g3
     simp (disch := omega) only [hT, hB, hR, hN, dT, f2, f5, Bool.not_true, Bool.and_true, Bool.true_and, brTc, brFc] at tree
     by_cases hA : atV (keepR t b) (fstS l) < (keepR t b).length
     ·rw [dT hA] at tree ⊢; exact tree.trans rfl
     ·by_cases h24 : 24 ≤ (keepR t b).length
      ·rw [dF hA, dT (show ((keepR t b).length : Int) ≥ 24 by omega)] at tree; rw [dF hA, dT h24]; exact tree.trans rfl
      ·rw [dF hA, dF h24] at g3
       cases g3
 ·cases h
theorem jnS : jaf Tryz.prog sis2 := ⟨jmb, jsc, jsW, ju8, jvM, jsO, trivial⟩
theorem jrv : jab Tryz.prog 37 E_sInsA := jbH mix jnS (lp := []) (LO := LO0) ⟨Tryz.func37, by kernel_rfl, by kernel_rfl⟩ (by kernel_rfl) fun ivs res bxs h => by
 unfold E_sInsA at h
 split at h
 ·rename_i p q r
  obtain ⟨hc, he⟩ := pick1 h
  cases he
  obtain ⟨hc, g3⟩ := andE hc
  obtain ⟨hc, g2⟩ := andE hc
  obtain ⟨g0, g1⟩ := andE hc
  obtain ⟨t, rfl, h_t⟩ := jae g0
  obtain ⟨b, rfl, h_b⟩ := jay g1
  obtain ⟨l, rfl, h_l⟩ := jae g2
  have e_t : asT (pT t) = t := jbt t
  have e_b : asTb (pTb b) = b := jap b
  have e_l : asL (pL l) = l := jad l
  rw [e_t, e_b, e_l] at g3
  rw [e_b, e_l]
  refine ⟨jam (by kernel_rfl), ?_⟩
  have tree := jjc t b l
  have i1 := jbi h_b
  have a1 := jap b
  have i2 := jiN h_t
  have a2 := jbt t
  have i3 := jai h_l
  have a3 := jad l
  have i4 : isE pL shL (pL l) = true := i3
  have a4 : asE pL (pL l) = l := a3
  have i5 : isE pRw shL (PV.agg [PV.sl l.length (l.map PV.str)]) = true := ja9 (enc := pRw) h_l
  have a5 : asE pRw (PV.agg [PV.sl l.length (l.map PV.str)]) = l := jbZ l
  have hk := jeV h_t b
  have i6 := jbe hk
  have a6 := jas (keepR t b)
  simp only [isT, asT, isTb, asTb, isL, asL, isRw, asRw, isNs, asNs, i1, a1, i2, a2, i3, a3, i4, a4, i5, a5, i6, a6, Nat.beq_refl, beq_self_eq_true, Bool.and_true, Bool.true_and] at tree
  obtain ⟨hT, hB, hR, hA, h24⟩ := jjK (eq_of_beq g3)
  obtain ⟨f1, f2, f3, f4, f5⟩ := jb5 hB hR
  have ho := jp3 hB f1
  have hN := jdm hT b
  have hcs := jeL 1 b l b.idxs
  have hil := h_b.2.2.2.1
  obtain ⟨x, r, hxr⟩ := jgV f2
  have hf : fstS l = x := by rw [jde, hxr]; rfl
  have hd : List.headD (List.drop 0 (l.map PV.str)) PV.nilp = PV.str (fstS l) := by rw [hf, hxr]; rfl
  have hb1 : Nat.blt 0 (List.drop 0 (l.map PV.str)).length = true := by rw [hxr]; rfl
  simp (disch := omega) only [hT, hB, hR, hN, ho, dT, dF, f2, f3, f4, f5, hd, hb1, PV.isStr, PV.asStr, if_neg hA, hA, h24, Bool.not_true, Bool.and_true, Bool.true_and, brTc, brFc] at tree
  exact ⟨_, tree, rfl, rfl⟩
 ·cases h
theorem jqA : jab Tryz.prog 37 E_sInsB := jbH mix jnS (lp := []) (LO := LO0) ⟨Tryz.func37, by kernel_rfl, by kernel_rfl⟩ (by kernel_rfl) fun ivs res bxs h => by
 unfold E_sInsB at h
 split at h
 ·rename_i p q r
  obtain ⟨hc, he⟩ := pick1 h
  cases he
  obtain ⟨hc, g3⟩ := andE hc
  obtain ⟨hc, g2⟩ := andE hc
  obtain ⟨g0, g1⟩ := andE hc
  obtain ⟨t, rfl, h_t⟩ := jae g0
  obtain ⟨b, rfl, h_b⟩ := jay g1
  obtain ⟨l, rfl, h_l⟩ := jae g2
  have e_t : asT (pT t) = t := jbt t
  have e_b : asTb (pTb b) = b := jap b
  have e_l : asL (pL l) = l := jad l
  rw [e_t, e_b, e_l] at g3 ⊢
  refine ⟨jam (by kernel_rfl), ?_⟩
  have tree := jjc t b l
  have i1 := jbi h_b
  have a1 := jap b
  have i2 := jiN h_t
  have a2 := jbt t
  have i3 := jai h_l
  have a3 := jad l
  have i4 : isE pL shL (pL l) = true := i3
  have a4 : asE pL (pL l) = l := a3
  have i5 : isE pRw shL (PV.agg [PV.sl l.length (l.map PV.str)]) = true := ja9 (enc := pRw) h_l
  have a5 : asE pRw (PV.agg [PV.sl l.length (l.map PV.str)]) = l := jbZ l
  have hk := jeV h_t b
  have i6 := jbe hk
  have a6 := jas (keepR t b)
  simp only [isT, asT, isTb, asTb, isL, asL, isRw, asRw, isNs, asNs, i1, a1, i2, a2, i3, a3, i4, a4, i5, a5, i6, a6, Nat.beq_refl, beq_self_eq_true, Bool.and_true, Bool.true_and] at tree
  unfold insC at g3 ⊢
  cases hT : treeB t with
  | false => rw [hT] at tree; exact ⟨_, tree, rfl, rfl⟩
  | true =>
   cases hB : tblB b with
   | false => rw [hT, hB] at tree; exact ⟨_, tree, rfl, rfl⟩
   | true =>
    cases hR : rowB b l with
    | false =>
     have f5 : 1 ≤ b.cols.length := by
      have h := hB
      unfold tblB at h
      obtain ⟨h, _⟩ := andE h
      obtain ⟨h, _⟩ := andE h
      obtain ⟨h, _⟩ := andE h
      obtain ⟨h, _⟩ := andE h
      exact nqI (andE h).2
     rw [hT, hB, hR, dT f5] at tree
     simp only [Bool.true_and, cond_false]
     exact ⟨_, tree, rfl, rfl⟩
    | true =>
     obtain ⟨f1, f2, f3, f4, f5⟩ := jb5 hB hR
     have hN := jdm hT b
     rw [hT, hB, hR] at g3
     obtain ⟨x, r, hxr⟩ := jgV f2
     have hf : fstS l = x := by rw [jde, hxr]; rfl
     have hd : List.headD (List.drop 0 (l.map PV.str)) PV.nilp = PV.str (fstS l) := by rw [hf, hxr]; rfl
     have hb1 : Nat.blt 0 (List.drop 0 (l.map PV.str)).length = true := by rw [hxr]; rfl
     simp (disch := omega) only [hd, hb1, PV.isStr, PV.asStr, hT, hB, hR, hN, dT, f2, f5, Bool.not_true, Bool.and_true, Bool.true_and, brTc, brFc] at tree
     by_cases hA : atV (keepR t b) (fstS l) < (keepR t b).length
     ·rw [if_pos hA, dT (show ((atV (keepR t b) (fstS l) : Nat) : Int) ≥ 0 by omega)] at tree; rw [dT hA]; simp only [Bool.true_and, cond_true]; exact ⟨_, tree, rfl, rfl⟩
     ·by_cases h24 : 24 ≤ (keepR t b).length
      ·rw [if_neg hA, dF (show ¬ (-1 : Int) ≥ 0 by omega), dT (show ((keepR t b).length : Int) ≥ 24 by omega)] at tree; rw [dF hA, dT h24]; simp only [Bool.true_and, cond_true, cond_false]; exact ⟨_, tree, rfl, rfl⟩
      ·rw [dF hA, dF h24] at g3
       cases g3
 ·cases h
end
section
open Go.RowKit
def sjb (S I : Entry) : List (FuncId × Entry) := (10, E_szT) :: (11, E_szTb) :: (18, E_szR) :: (13, E_toT) :: (14, E_toTb) :: (20, E_toR) :: (37, S) :: (38, I) :: (22, E_eqChs) :: (16, E_eqTr) :: (17, E_eqTb) :: (23, E_eqRw) :: (24, E_mkTr) :: (25, E_mkTb) :: (26, E_mkRw) :: (27, E_mkCh) :: [(28, E_hdCh)]
abbrev jlm : List (Nat × List Nat × List Nat) := [(1000000, [], [52, 53, 54, 82, 85, 88]), (1000001, [1800880, 1601344, 1701392, 1601440, 1601696], []), (2000067, [10, 0, 67], []), (2000072, [11, 2, 72, 11, 3, 76], []), (2000077, [12, 0, 77], [])]
def q_sjA (br : Br) (t : List NodeT) (b : TblT) (l : List ByteArray) := evB br Tryz.prog (sjb E_sInsA E_InsA) jlm LO0 Tryz.f7 [cP (pT t), cP (pTb b), cP (.agg [pL l])]
def q_sjB (br : Br) (t : List NodeT) (b : TblT) (l : List ByteArray) := evB br Tryz.prog (sjb E_sInsB E_InsB) jlm LO0 Tryz.f7 [cP (pT t), cP (pTb b), cP (.agg [pL l])]
end
end
end Go.Proofs.YtbeebeamdjbkmaaGreatDoor
