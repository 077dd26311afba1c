/- PutTop of the program, by the reckoner: proofs. -/
import Derived.Test.YtdegegajoccdjaaCiT
import Derived.Test.YtdegegajoccdjaaChP
namespace Go.Proofs.Ytdegegajoccdjaa
open Go.RowKit
set_option linter.unusedVariables false
set_option linter.unusedSimpArgs false
set_option maxRecDepth 100000

theorem ok_countS : EntryOk Try.prog 48 E_countS := entry_of mix (tab := []) trivial (lp := []) (LO := LO0) ⟨Try.func48, by kernel_rfl, by kernel_rfl⟩ (by kernel_rfl) fun ivs res bxs h => by
  unfold E_countS at h
  split at h
  · rename_i n l
    obtain ⟨hc, he⟩ := pick1 h
    cases he
    exact ⟨noLoop (by kernel_rfl), q_countS_eq n l⟩
  · cases h
theorem ok_cib0 : EntriesOk Try.prog cib0 := ⟨ok_ITop ok_seatsOk, ok_little, ok_countS, ok_bldWrite, ok_bldString, ok_St, trivial⟩
theorem IPut_loop (a b c : Int) (l : List SeT) (h : shSes l) (hB : seatsB l = true) : ∀ (m i : Nat) (s : ByteArray), m + i = l.length → s.size ≤ 10 + 3 * i →
    LoopsTo (rdB brC Try.prog cib0 lp_IPut LO_IPut Try.f28 6 [0]) [kS l, bxB 1 a b c, aBld 3 s, ((.own 0, none) : AV × Option Ob), aI l.length, aI i] (.exit 0, [kS l, bxB 1 a b c, aBld 3 (seatsTxt s (l.drop i))]) := by
  have hl := h.1
  obtain ⟨h64, hall⟩ := seatsB_inv hB
  intro m
  induction m with
  | zero =>
    intro i s hi hs
    rw [List.drop_eq_nil_of_le (by omega)]
    refine .done _ _ ((r_IPut_eq a b c l s i).trans ?_)
    rw [dF (by omega)]
    rfl
  | succ m ih =>
    intro i s hi hs
    have hil : i < l.length := by omega
    have tree := r_IPut_eq a b c l s i
    have w1 : IntKind.wrap .i64 ((i : Int) + 1) = ((i + 1 : Nat) : Int) := by rw [wrapI (by omega) (by omega)]; omega
    obtain ⟨⟨p1, p2⟩, p3, p4⟩ := hall l[i] (List.getElem_mem hil)
    have z1 := lit_size l[i].id 1
    have z2 := lit_size l[i].slot 2
    have z3 : (litV l[i].id 1 ++ litV l[i].slot 2).size = 3 := by rw [ByteArray.size_append, z1, z2]
    have iB : isBy (.sl s.size (bytesP s)) = true := isBy_mk (show s.size ≤ 100000000 by omega)
    have aB : asBy (.sl s.size (bytesP s)) = s := asBy_mk s
    have q1 : holds (s.size + 3 ≤ 100000000) = true := holds_mk (by omega)
    have hle : Nat.ble (i * 2) (encSe l).length = true := by rw [encSe_len]; exact Nat.ble_eq_true_of_le (by omega)
    rw [Int.toNat_natCast, iB, aB, hle] at tree
    simp (disch := first | omega | rfl) only [drop_encSe l i hil, w1, z1, z2, z3, q1, decide_true, dT, Int.toNat_natCast, List.length_cons, List.headD_cons, List.tail_cons, List.drop_zero, List.drop_succ_cons, PV.isStr, PV.asStr, PV.isSl, PV.slN, PV.slL, PV.isInt, PV.asInt, PV.isBool, PV.asBool, ble1, ble2, ble3, ble4, ble5, ble6, blt0, wrap1, Bool.and_true, Bool.true_and] at tree
    rw [← ByteArray.append_assoc] at tree
    have := ih (i + 1) (s ++ litV l[i].id 1 ++ litV l[i].slot 2) (by omega) (by rw [ByteArray.size_append, ByteArray.size_append, z1, z2]; omega)
    rw [List.drop_eq_getElem_cons hil]
    exact .step _ _ _ tree this
theorem loops_IPut : ∀ b ∈ loopsIn (bodyOf Try.f28), LoopOk Try.prog (tabL cib0) (OL lp_IPut) Try.f28.ntmps (pbOf [0]) LO_IPut b := by
  refine oneLoop 6 (by kernel_rfl) (by kernel_rfl) (by kernel_rfl) ?_
  intro ls e ls' hl
  replace hl : pickA (LO_IPut 6 ls) = some (e, ls') := hl
  unfold LO_IPut at hl
  split at hl
  · rename_i e0 n l x a b c y q e2 n2 l2 z m i
    obtain ⟨hc, he⟩ := pick1 hl
    cases he
    obtain ⟨hc, k11⟩ := andE hc
    obtain ⟨hc, k10⟩ := andE hc
    obtain ⟨hc, k9⟩ := andE hc
    obtain ⟨hc, k8⟩ := andE hc
    obtain ⟨hc, k7⟩ := andE hc
    obtain ⟨hc, k6⟩ := andE hc
    obtain ⟨hc, k5⟩ := andE hc
    obtain ⟨hc, k4⟩ := andE hc
    obtain ⟨hc, k3⟩ := andE hc
    obtain ⟨hc, k2⟩ := andE hc
    obtain ⟨k0, k1⟩ := andE hc
    obtain ⟨t, q_t, h_t⟩ := isE_inv k0
    injection q_t with qa qb
    subst qa
    subst qb
    obtain ⟨s, q_s, h_s⟩ := isE_inv k6
    injection q_s with qa qb
    subst qa
    subst qb
    have e_t : asSes (.sl _ _) = t := asSes_mk t
    have e_s : asBy (.sl s.size (bytesP s)) = s := asBy_mk s
    rw [e_t] at k8 k10 ⊢
    rw [e_s] at k11 ⊢
    obtain rfl := Nat.eq_of_beq_eq_true k1
    obtain rfl := Nat.eq_of_beq_eq_true k2
    obtain rfl := Nat.eq_of_beq_eq_true k3
    obtain rfl := Nat.eq_of_beq_eq_true k4
    obtain rfl := Nat.eq_of_beq_eq_true k5
    obtain rfl := Nat.eq_of_beq_eq_true k7
    obtain rfl := eq_of_beq k8
    obtain rfl := eq_of_beq k9
    exact IPut_loop a b c t h_t k10 t.length 0 s (by omega) (by have := holds_inv k11; omega)
  · cases hl
theorem loops_IPut0 : ∀ b ∈ loopsIn (bodyOf Try.f28), LoopOk Try.prog (tabL cib0) (OL lp_IPut) Try.f28.ntmps (pbOf []) LO_IPut0 b := by
  refine oneLoop 6 (by kernel_rfl) (by kernel_rfl) (by kernel_rfl) ?_
  intro ls e ls' hl
  replace hl : pickA (LO_IPut0 6 ls) = some (e, ls') := hl
  unfold LO_IPut0 at hl
  split at hl
  · rename_i p x a b c y q e2 n2 l2 m i
    obtain ⟨hc, he⟩ := pick1 hl
    cases he
    obtain ⟨hc, k6⟩ := andE hc
    obtain ⟨hc, k5⟩ := andE hc
    obtain ⟨hc, k4⟩ := andE hc
    obtain ⟨hc, k3⟩ := andE hc
    obtain ⟨hc, k2⟩ := andE hc
    obtain ⟨k0, k1⟩ := andE hc
    obtain ⟨s, q_s, h_s⟩ := isE_inv k4
    injection q_s with qa qb
    subst qa
    subst qb
    have e_s : asBy (.sl s.size (bytesP s)) = s := asBy_mk s
    rw [e_s]
    obtain rfl := Nat.eq_of_beq_eq_true k0
    obtain rfl := Nat.eq_of_beq_eq_true k1
    obtain rfl := Nat.eq_of_beq_eq_true k2
    obtain rfl := Nat.eq_of_beq_eq_true k3
    obtain rfl := eq_of_beq k5
    obtain rfl := eq_of_beq k6
    exact .done _ _ (r_IPut0_eq p a b c s)
  · cases hl
theorem litB (a : Int) (k : Nat) (h : 0 ≤ a) (n : Int) (h1 : 0 ≤ n) (h2 : n ≤ 8) : (decide (0 ≤ a) && decide (0 ≤ n) && decide (n ≤ 8)) = true := by rw [dT h, dT h1, dT h2]; rfl
theorem ok_IPut1 : EntryOk Try.prog 28 E_IPut1 := entry_of mix ok_cib0 (lp := lp_IPut) (LO := LO_IPut) ⟨Try.func28, by kernel_rfl, by kernel_rfl⟩ (by kernel_rfl) fun ivs res bxs h => by
  unfold E_IPut1 at h
  split at h
  · rename_i a b c e n l
    obtain ⟨hc, he⟩ := pick1 h
    cases he
    obtain ⟨k0, k1⟩ := andE hc
    obtain ⟨t, q_t, h_t⟩ := isE_inv k0
    injection q_t with qa qb
    subst qa
    subst qb
    obtain rfl := Nat.eq_of_beq_eq_true k1
    have e_t : asSes (.sl _ _) = t := asSes_mk t
    refine ⟨loops_IPut, (q_IPut_eq a b c t).trans ?_⟩
    rw [k0, e_t, show Nat.beq t.length t.length = true from Nat.beq_refl _]
    unfold putV
    cases hT : topB a b c t with
    | false => rfl
    | true =>
      obtain ⟨⟨a1, a2⟩, ⟨b1, b2⟩, ⟨c1, c2⟩, hS⟩ := topB_inv hT
      obtain ⟨h64, _⟩ := seatsB_inv hS
      rw [show litV b 1 ++ litV c 4 ++ litV (t.length : Int) 1 = headT b c t from rfl]
      have hz : (headT b c t).size = 6 := head_size b c t
      have hz2 : (seatsTxt (headT b c t) t).size = 6 + 3 * t.length := by rw [seatsTxt_size, hz]
      have z1 := lit_size b 1
      have z2 := lit_size c 4
      have z3 : (litV b 1 ++ litV c 4).size = 5 := by rw [ByteArray.size_append, z1, z2]
      have z4 := lit_size (t.length : Int) 1
      have z5 := lit_size a 4
      have i1 : isBy (.sl (headT b c t).size (bytesP (headT b c t))) = true := isBy_mk (show _ ≤ 100000000 by omega)
      have j1 : asBy (.sl (headT b c t).size (bytesP (headT b c t))) = headT b c t := asBy_mk _
      have i2 : isBy (.sl (seatsTxt (headT b c t) t).size (bytesP (seatsTxt (headT b c t) t))) = true := isBy_mk (show _ ≤ 100000000 by omega)
      have j2 : asBy (.sl (seatsTxt (headT b c t) t).size (bytesP (seatsTxt (headT b c t) t))) = seatsTxt (headT b c t) t := asBy_mk _
      rw [j1, i1, j2, i2, hS, hidS_eq, z1, z2, z3, z4, z5, holds_mk (show (headT b c t).size ≤ 100000000 by omega), holds_mk (show (headT b c t).size ≤ 10 by omega), holds_mk (show 4 ≤ 1000000 by omega), holds_mk (show (seatsTxt (headT b c t) t).size ≤ 1000000 by omega), Nat.ble_eq_true_of_le (show 1 ≤ (seatsTxt (headT b c t) t).size by omega), dT (show 0 ≤ b by omega), dT c1, dT (show 0 ≤ a by omega), show (((t.length : Nat) : Int) == ((t.length : Nat) : Int)) = true from beq_self_eq_true _]
      rfl
  · cases h
theorem ok_IPut0 : EntryOk Try.prog 28 E_IPut0 := entry_of mix ok_cib0 (lp := lp_IPut) (LO := LO_IPut0) ⟨Try.func28, by kernel_rfl, by kernel_rfl⟩ (by kernel_rfl) fun ivs res bxs h => by
  unfold E_IPut0 at h
  split at h
  · rename_i a b c
    obtain ⟨hc, he⟩ := pick1 h
    cases he
    refine ⟨loops_IPut0, (q_IPut0_eq a b c).trans ?_⟩
    unfold putV
    cases hT : topB a b c [] with
    | false => rfl
    | true =>
      obtain ⟨⟨a1, a2⟩, ⟨b1, b2⟩, ⟨c1, c2⟩, hS⟩ := topB_inv hT
      rw [show litV b 1 ++ litV c 4 ++ litV 0 1 = headT b c [] from rfl]
      have hz : (headT b c []).size = 6 := head_size b c []
      have z1 := lit_size b 1
      have z2 := lit_size c 4
      have z3 : (litV b 1 ++ litV c 4).size = 5 := by rw [ByteArray.size_append, z1, z2]
      have z4 := lit_size 0 1
      have z5 := lit_size a 4
      have i1 : isBy (.sl (headT b c []).size (bytesP (headT b c []))) = true := isBy_mk (show _ ≤ 100000000 by omega)
      have j1 : asBy (.sl (headT b c []).size (bytesP (headT b c []))) = headT b c [] := asBy_mk _
      rw [j1, i1, j1, hidS_eq, z1, z2, z3, z4, z5, holds_mk (show (headT b c []).size ≤ 100000000 by omega), holds_mk (show 4 ≤ 1000000 by omega), holds_mk (show (headT b c []).size ≤ 1000000 by omega), Nat.ble_eq_true_of_le (show 1 ≤ (headT b c []).size by omega), dT (show 0 ≤ b by omega), dT c1, dT (show 0 ≤ a by omega)]
      rfl
  · cases h
theorem ok_IPut : EntryOk Try.prog 28 E_IPut := ⟨ok_IPut1.1, fun ivs res bxs h => by
  unfold E_IPut at h
  split at h
  · exact ok_IPut1.2 _ _ _ h
  · exact ok_IPut0.2 _ _ _ h
  · cases h⟩
end Go.Proofs.Ytdegegajoccdjaa
