/- Disks that are drawn, by the reckoner, second part: proofs. -/
import Derived.Test.YtjbjgeekglpmlaaHdT
namespace Go.Proofs.Ytjbjgeekglpmlaa
open Go.RowKit
set_option linter.unusedVariables false
set_option linter.unusedSimpArgs false
set_option maxRecDepth 100000

theorem ok_By : EntryOk Try.prog 64 E_By := entry_of mix ok_hcb0 (lp := lp_By) (LO := LO_By) ⟨Try.func64, by kernel_rfl, by kernel_rfl⟩ (by kernel_rfl) fun ivs res bxs h => by
  unfold E_By at h
  split at h
  · rename_i n l a g w
    obtain ⟨hc, he⟩ := pick1 h
    cases he
    simp only [Bool.and_eq_true, decide_eq_true_eq] at hc
    obtain ⟨⟨⟨h1, h2⟩, h3⟩, h4⟩ := hc
    obtain ⟨k, rfl, hk, hn, rfl, hw⟩ := srcOk_inv h1
    rw [Int.toNat_natCast]
    refine ⟨oneLoop 3 (by kernel_rfl) (by kernel_rfl) (by kernel_rfl) ?_, (@drawV_ok ByteArray ⟨⟨#[]⟩⟩ _ _ _ _ _ _ _ _ (by_draw w h3 h4) hw hn (by omega)).2.2.2⟩
    intro ls e ls' hl
    unfold LO_By at hl
    split at hl
    · rename_i n l a g w x e cn cl i
      obtain ⟨hc, he⟩ := pick1 hl
      cases he
      simp only [Bool.and_eq_true, decide_eq_true_eq, beq_iff_eq] at hc
      obtain ⟨⟨⟨⟨⟨⟨⟨⟨⟨h1, h2⟩, h3⟩, h4⟩, h5⟩, h6⟩, h7⟩, h8⟩, h9⟩, h10⟩ := hc
      obtain ⟨k, rfl, hk, hn, rfl, hw⟩ := srcOk_inv h1
      obtain ⟨b, hb1, hb2⟩ := holds_inv h7
      obtain ⟨c, hc⟩ := Int.eq_ofNat_of_zero_le h9
      rw [Nat.eq_of_beq_eq_true h5, Nat.eq_of_beq_eq_true h6, hb1, asBy_mk, hc, Int.toNat_natCast, Int.toNat_natCast, ← hb2]
      exact By_loop n l hw hn w h3 c k b (by omega) (by omega) (by omega)
    · cases hl
  · cases h
theorem ok_hdb0 : EntriesOk Try.prog hdb0 := ⟨ok_By, ok_New, ok_hcb0⟩
section
variable {n : Nat} {l : List PV} (hw : wfB n l = true) (hn : n ≤ 1048577) {w : Int} (h1 : 1 ≤ w) (h2 : w ≤ 2000)
include hw hn h1 h2
theorem byV_facts {k : Nat} (hk : k ≤ 800000) : k ≤ (byV w n l k).2 ∧ (byV w n l k).2 ≤ k + 20 ∧ ((byV w n l k).1.size : Int) = w := by
  obtain ⟨a, b, c, _⟩ := @drawV_ok ByteArray ⟨⟨#[]⟩⟩ _ _ _ _ _ _ _ _ (by_draw w h1 h2) hw hn hk
  exact ⟨a, b, c⟩
theorem secV_facts : ∀ (c k : Nat), k + 20 * c ≤ 800000 → (secV w n l c k).1.length = c ∧ (∀ x ∈ (secV w n l c k).1, (x.size : Int) = w) ∧ k ≤ (secV w n l c k).2 ∧ (secV w n l c k).2 ≤ k + 20 * c
  | 0, k, _ => ⟨rfl, (fun x h => absurd h List.not_mem_nil), Nat.le_refl _, Nat.le_refl _⟩
  | c + 1, k, hk => by
    obtain ⟨a1, a2, a3⟩ := byV_facts hw hn h1 h2 (k := k) (by omega)
    obtain ⟨b1, b2, b3, b4⟩ := secV_facts c (byV w n l k).2 (by omega)
    unfold secV
    refine ⟨by rw [List.length_cons, b1], fun x hx => ?_, by omega, by omega⟩
    rcases List.mem_cons.1 hx with rfl | hx
    · exact a3
    · exact b2 x hx
theorem putV_facts {m : Int} (hm : 1 ≤ m) : ∀ (c k : Nat), k + 22 * c ≤ 800000 → (putV w m n l c k).1.length = c ∧ (∀ x ∈ (putV w m n l c k).1, 0 ≤ x.at_ ∧ x.at_ < m ∧ (x.byt.size : Int) = w) ∧ k ≤ (putV w m n l c k).2 ∧ (putV w m n l c k).2 ≤ k + 22 * c
  | 0, k, _ => ⟨rfl, (fun x h => absurd h List.not_mem_nil), Nat.le_refl _, Nat.le_refl _⟩
  | c + 1, k, hk => by
    have hp := pikK_le k m
    obtain ⟨p1, p2⟩ := pik_range hw k hm
    obtain ⟨a1, a2, a3⟩ := byV_facts hw hn h1 h2 (k := pikK k m) (by omega)
    obtain ⟨b1, b2, b3, b4⟩ := putV_facts hm c (byV w n l (pikK k m)).2 (by omega)
    unfold putV
    refine ⟨by rw [List.length_cons, b1], fun x hx => ?_, by omega, by omega⟩
    rcases List.mem_cons.1 hx with rfl | hx
    · exact ⟨p1, p2, a3⟩
    · exact b2 x hx
theorem Dk4_loop (m : Int) : ∀ (c k : Nat) (done : List ByteArray) (rest : List PV) (cn : Nat), c + done.length = cn → rest.length = c → k + 20 * c ≤ 800000 → cn ≤ 1000 →
    LoopsTo (rdB brC Try.prog hdb0 lp_Dk LO_Dk Try.f30 4 [0]) [aB0 (sk n l k), aBx 2 zD, aBx 3 [.pv (.int .i64 w), .lst 1 9 cn (done.map .str ++ rest) true, .pv .nils], aI m, aI cn, aI done.length]
      (.exit 0, [aB0 (sk n l (secV w n l c k).2), aBx 2 zD, aBx 3 [.pv (.int .i64 w), .lst 1 9 cn ((done ++ (secV w n l c k).1).map .str) true, .pv .nils], aI m])
  | 0, k, done, rest, cn, hc, hr, hk, hcn => by
    obtain rfl := List.length_eq_zero_iff.1 hr
    refine .done _ _ ((r_Dk4_eq n l k _ w m cn _ cn done.length).trans ?_)
    rw [dF (by omega)]
    show _ = some (Sum.inr (Ex.exit 0, [aB0 (sk n l k), aBx 2 zD, aBx 3 [.pv (.int .i64 w), .lst 1 9 cn ((done ++ []).map .str) true, .pv .nils], aI m]))
    rw [List.append_nil, List.append_nil]
    rfl
  | c + 1, k, done, rest, cn, hc, hr, hk, hcn => by
    cases rest with
    | nil => cases hr
    | cons x rest =>
      rw [List.length_cons] at hr
      obtain ⟨a1, a2, a3⟩ := byV_facts hw hn h1 h2 (k := k) (by omega)
      have tree := r_Dk4_eq n l k (seedK l k) w m cn (done.map .str ++ x :: rest) cn done.length
      have s0 := srcOk_mk hw (show k ≤ 1048576 by omega) hn
      have b1 : ∀ x : PV, Nat.beq (List.length [x]) 1 = true := fun _ => rfl
      have b4 : Nat.ble (done.length * 1 + 1) (done.map PV.str ++ x :: rest).length = true := Nat.ble_eq_true_of_le (by rw [List.length_append, List.length_map, List.length_cons]; omega)
      have t1 : List.take (done.length * 1) (done.map PV.str ++ x :: rest) = done.map PV.str := by
        rw [Nat.mul_one]
        exact List.take_left' (by rw [List.length_map])
      have t2 : List.drop (done.length * 1 + 1) (done.map PV.str ++ x :: rest) = rest := by
        rw [Nat.mul_one, ← List.drop_drop, List.drop_left' (by rw [List.length_map])]
        rfl
      simp (disch := omega) only [Int.toNat_natCast, s0, b1, b4, t1, t2, dT, wrap1, Bool.true_and, Bool.and_true] at tree
      have ih := Dk4_loop m c (byV w n l k).2 (done ++ [(byV w n l k).1]) rest cn (by rw [List.length_append, List.length_singleton]; omega) (by omega) (by omega) hcn
      have e1 : (done ++ [(byV w n l k).1]).length = done.length + 1 := by rw [List.length_append, List.length_singleton]
      have e2 : done ++ [(byV w n l k).1] ++ (secV w n l c (byV w n l k).2).1 = done ++ ((byV w n l k).1 :: (secV w n l c (byV w n l k).2).1) := by rw [List.append_assoc]; rfl
      rw [e2, e1, List.map_append (l₁ := done) (l₂ := [_])] at ih
      unfold secV
      exact .step _ _ _ tree ih
theorem Dk9b_loop {m : Int} (hm : 1 ≤ m) (cn : Nat) (cl : List PV) : ∀ (c k : Nat) (t : List PutT), k + 22 * c ≤ 800000 → c + t.length ≤ 1000 →
    LoopsTo (rdB brC Try.prog hdb0 lp_Dk LO_Dk Try.f30 9 [0]) [aB0 (sk n l k), aBx 2 zD, aBx 3 [.pv (.int .i64 w), .lst 1 9 cn cl true, .lst 2 47 t.length (encP t) false], aI m, aI c]
      (.exit 2, [aB0 (sk n l (putV w m n l c k).2), aBx 2 zD, aBx 3 [.pv (.int .i64 w), .lst 1 9 cn cl true, .lst 2 47 (t ++ (putV w m n l c k).1).length (encP (t ++ (putV w m n l c k).1)) false]])
  | 0, k, t, hk, ht => by
    refine .done _ _ ((r_Dk9b_eq n l k _ w m cn cl t.length (encP t) _).trans ?_)
    rw [dF (by omega)]
    show _ = some (Sum.inr (Ex.exit 2, [aB0 (sk n l k), aBx 2 zD, aBx 3 [.pv (.int .i64 w), .lst 1 9 cn cl true, .lst 2 47 (t ++ []).length (encP (t ++ [])) false]]))
    rw [List.append_nil]
    rfl
  | c + 1, k, t, hk, ht => by
    have hp := pikK_le k m
    obtain ⟨a1, a2, a3⟩ := byV_facts hw hn h1 h2 (k := pikK k m) (by omega)
    have tree := r_Dk9b_eq n l k (seedK l k) w m cn cl t.length (encP t) ((c + 1 : Nat) : Int)
    have s0 := srcOk_mk hw (show k ≤ 1048576 by omega) hn
    have s1 := srcOk_mk hw (show pikK k m ≤ 1048576 by omega) hn
    have b1 : ∀ x y : PV, Nat.beq (List.length [x, y]) (1 * 2) = true := fun _ _ => rfl
    have w1 : IntKind.wrap .i64 (((c + 1 : Nat) : Int) - 1) = (c : Int) := by rw [wrapI (by omega) (by omega)]; omega
    simp (disch := omega) only [Int.toNat_natCast, s0, s1, b1, w1, dT, Bool.true_and, Bool.and_true] at tree
    have ih := Dk9b_loop hm cn cl c (byV w n l (pikK k m)).2 (t ++ [⟨pikV l k m, (byV w n l (pikK k m)).1⟩]) (by omega) (by rw [List.length_append, List.length_singleton]; omega)
    have e1 : (t ++ [(⟨pikV l k m, (byV w n l (pikK k m)).1⟩ : PutT)]).length = t.length + 1 := by rw [List.length_append, List.length_singleton]
    have e2 : t ++ [(⟨pikV l k m, (byV w n l (pikK k m)).1⟩ : PutT)] ++ (putV w m n l c (byV w n l (pikK k m)).2).1 = t ++ (⟨pikV l k m, (byV w n l (pikK k m)).1⟩ :: (putV w m n l c (byV w n l (pikK k m)).2).1) := by rw [List.append_assoc]; rfl
    rw [e2, e1, encP_app t [_]] at ih
    unfold putV
    exact .step _ _ _ tree ih
theorem Dk9a_loop {m : Int} (hm : 1 ≤ m) (cn : Nat) (cl : List PV) (c k : Nat) (hk : k + 22 * (c + 1) ≤ 800000) (hc : c ≤ 100) :
    LoopsTo (rdB brC Try.prog hdb0 lp_Dk LO_Dk Try.f30 9 [0]) [aB0 (sk n l k), aBx 2 zD, aBx 3 [.pv (.int .i64 w), .lst 1 9 cn cl true, .pv .nils], aI m, aI ((c + 1 : Nat) : Int)]
      (.exit 2, [aB0 (sk n l (putV w m n l (c + 1) k).2), aBx 2 zD, aBx 3 [.pv (.int .i64 w), .lst 1 9 cn cl true, .lst 2 47 (putV w m n l (c + 1) k).1.length (encP (putV w m n l (c + 1) k).1) false]]) := by
  have hp := pikK_le k m
  obtain ⟨a1, a2, a3⟩ := byV_facts hw hn h1 h2 (k := pikK k m) (by omega)
  have tree := r_Dk9a_eq n l k (seedK l k) w m cn cl ((c + 1 : Nat) : Int)
  have s0 := srcOk_mk hw (show k ≤ 1048576 by omega) hn
  have s1 := srcOk_mk hw (show pikK k m ≤ 1048576 by omega) hn
  have w1 : IntKind.wrap .i64 (((c + 1 : Nat) : Int) - 1) = (c : Int) := by rw [wrapI (by omega) (by omega)]; omega
  simp (disch := omega) only [Int.toNat_natCast, s0, s1, w1, dT, Bool.true_and, Bool.and_true] at tree
  have ih := Dk9b_loop hw hn h1 h2 hm cn cl c (byV w n l (pikK k m)).2 [⟨pikV l k m, (byV w n l (pikK k m)).1⟩] (by omega) (by rw [List.length_singleton]; omega)
  unfold putV
  exact .step _ _ _ tree ih
end
theorem fillV_facts {n : Nat} {l : List PV} (hw : wfB n l = true) (s : ByteArray) : ∀ (f k : Nat) (t : List PutT), t.length ≤ 401 → (fillV s l f k t).1.length ≤ 401 ∧ (∀ x ∈ (fillV s l f k t).1, x ∈ t ∨ x = ⟨0, s⟩) ∧ k ≤ (fillV s l f k t).2 ∧ (fillV s l f k t).2 ≤ k + 2 * f
  | 0, k, t, ht => ⟨ht, fun x h => .inl h, Nat.le_refl _, Nat.le_refl _⟩
  | f + 1, k, t, ht => by
    have hp := pikK_le k 3
    obtain ⟨p1, p2⟩ := pik_range hw k (m := 3) (by omega)
    unfold fillV
    split
    · obtain ⟨a1, a2, a3, a4⟩ := fillV_facts hw s f (pikK k 3) (t ++ [⟨0, s⟩]) (by rw [List.length_append, List.length_singleton]; omega)
      refine ⟨a1, fun x hx => ?_, by omega, by omega⟩
      rcases a2 x hx with h | h
      · rcases List.mem_append.1 h with h | h
        · exact .inl h
        · exact .inr (List.mem_singleton.1 h)
      · exact .inr h
    · exact ⟨ht, fun x h => .inl h, by omega, by omega⟩
section
variable {n : Nat} {l : List PV} (hw : wfB n l = true) (hn : n ≤ 1048577)
include hw hn
theorem Dk20b_loop (w : Int) (s : ByteArray) (ss : List ByteArray) (hss : ss.length ≤ 100000) : ∀ (f k : Nat) (t : List PutT), k + 2 * f ≤ 900000 → 402 ≤ t.length + f → t.length ≤ 401 →
    LoopsTo (rdB brC Try.prog hdb0 lp_Dk LO_Dk Try.f30 20 [0]) [aB0 (sk n l k), aBx 2 zD, aBx 3 [.pv (.int .i64 w), .lst 1 9 (s :: ss).length ((s :: ss).map .str) true, .lst 2 47 t.length (encP t) false]]
      (.exit 5, [aB0 (sk n l (fillV s l f k t).2), aBx 2 zD, aBx 3 [.pv (.int .i64 w), .lst 1 9 (s :: ss).length ((s :: ss).map .str) true, .lst 2 47 (fillV s l f k t).1.length (encP (fillV s l f k t).1) false]])
  | 0, k, t, hk, ht, ht2 => by omega
  | f + 1, k, t, hk, ht, ht2 => by
    have hp := pikK_le k 3
    obtain ⟨p1, p2⟩ := pik_range hw k (m := 3) (by omega)
    have tree := r_Dk20b_eq n l k (seedK l k) w (s :: ss).length ((s :: ss).map .str) t.length (encP t)
    have s0 := srcOk_mk hw (show k ≤ 1048576 by omega) hn
    have b1 : ∀ x y : PV, Nat.beq (List.length [x, y]) (1 * 2) = true := fun _ _ => rfl
    have w1 : IntKind.wrap .i64 (399 + pikV l k 3) = 399 + pikV l k 3 := wrapI (by omega) (by omega)
    have c1 : decide ((0 : Int) < ((s :: ss).length : Int)) = true := dT (by rw [List.length_cons]; omega)
    have c2 : (Nat.ble 0 ((s :: ss).map PV.str).length && (Nat.blt 0 (List.drop 0 ((s :: ss).map PV.str)).length && PV.isStr (List.headD (List.drop 0 ((s :: ss).map PV.str)) PV.nilp) && true)) = true := rfl
    have c3 : PV.asStr (List.headD (List.drop 0 ((s :: ss).map PV.str)) PV.nilp) = s := rfl
    unfold fillV
    by_cases hlt : (t.length : Int) < 399 + pikV l k 3
    · rw [if_pos hlt]
      simp (disch := omega) only [Int.toNat_natCast, s0, b1, w1, c1, c2, c3, dT, Bool.true_and, Bool.and_true] at tree
      have ih := Dk20b_loop w s ss hss f (pikK k 3) (t ++ [⟨0, s⟩]) (by omega) (by rw [List.length_append, List.length_singleton]; omega) (by rw [List.length_append, List.length_singleton]; omega)
      have e1 : (t ++ [(⟨0, s⟩ : PutT)]).length = t.length + 1 := by rw [List.length_append, List.length_singleton]
      rw [e1, encP_app t [_]] at ih
      exact .step _ _ _ tree ih
    · rw [if_neg hlt]
      simp (disch := omega) only [Int.toNat_natCast, s0, w1, dT, dF, Bool.true_and, Bool.and_true] at tree
      exact .done _ _ tree
theorem Dk20a_loop (w : Int) (s : ByteArray) (ss : List ByteArray) (hss : ss.length ≤ 100000) (f k : Nat) (hk : k + 2 * (f + 1) ≤ 900000) (hf : 401 ≤ f) :
    LoopsTo (rdB brC Try.prog hdb0 lp_Dk LO_Dk Try.f30 20 [0]) [aB0 (sk n l k), aBx 2 zD, aBx 3 [.pv (.int .i64 w), .lst 1 9 (s :: ss).length ((s :: ss).map .str) true, .pv .nils]]
      (.exit 5, [aB0 (sk n l (fillV s l (f + 1) k []).2), aBx 2 zD, aBx 3 [.pv (.int .i64 w), .lst 1 9 (s :: ss).length ((s :: ss).map .str) true, .lst 2 47 (fillV s l (f + 1) k []).1.length (encP (fillV s l (f + 1) k []).1) false]]) := by
  have hp := pikK_le k 3
  obtain ⟨p1, p2⟩ := pik_range hw k (m := 3) (by omega)
  have tree := r_Dk20a_eq n l k (seedK l k) w (s :: ss).length ((s :: ss).map .str)
  have s0 := srcOk_mk hw (show k ≤ 1048576 by omega) hn
  have w1 : IntKind.wrap .i64 (399 + pikV l k 3) = 399 + pikV l k 3 := wrapI (by omega) (by omega)
  have c1 : decide ((0 : Int) < ((s :: ss).length : Int)) = true := dT (by rw [List.length_cons]; omega)
  have c2 : (Nat.ble 0 ((s :: ss).map PV.str).length && (Nat.blt 0 (List.drop 0 ((s :: ss).map PV.str)).length && PV.isStr (List.headD (List.drop 0 ((s :: ss).map PV.str)) PV.nilp) && true)) = true := rfl
  have c3 : PV.asStr (List.headD (List.drop 0 ((s :: ss).map PV.str)) PV.nilp) = s := rfl
  unfold fillV
  rw [if_pos (by show ((0 : Nat) : Int) < _; omega)]
  simp (disch := omega) only [Int.toNat_natCast, s0, w1, c1, c2, c3, dT, Bool.true_and, Bool.and_true] at tree
  exact .step _ _ _ tree (Dk20b_loop hw hn w s ss hss f (pikK k 3) [⟨0, s⟩] (by omega) (by rw [List.length_singleton]; omega) (by rw [List.length_singleton]; omega))
end
end Go.Proofs.Ytjbjgeekglpmlaa
