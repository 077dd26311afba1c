/- Patterns: draws, by the reckoner: proofs. -/
import Derived.Test.YtdegegajoccdjaaGkT
namespace Go.Proofs.Ytdegegajoccdjaa
open Go.RowKit
set_option linter.unusedVariables false
set_option linter.unusedSimpArgs false
set_option maxRecDepth 100000

theorem among_range {t : List PV} {a b : Int} (h : t.all (fun p => decide (a ≤ p.asInt) && decide (p.asInt ≤ b)) = true) (ha : a ≤ 0) (hb : 0 ≤ b) (l : List PV) (k : Nat) : a ≤ amongV l k t ∧ amongV l k t ≤ b := by
  unfold amongV
  generalize (pickV l k t.length).toNat = j
  rcases Nat.lt_or_ge j t.length with hj | hj
  · rw [List.drop_eq_getElem_cons hj]
    have := List.all_eq_true.1 h _ (List.getElem_mem hj)
    rw [Bool.and_eq_true, decide_eq_true_eq, decide_eq_true_eq] at this
    exact this
  · rw [List.drop_eq_nil_of_le hj]
    exact ⟨ha, hb⟩
theorem loV_range (l : List PV) (k : Nat) : 0 ≤ loV l k ∧ loV l k ≤ 2 := among_range (t := loT) (a := 0) (b := 2) (by decide) (by omega) (by omega) l k
theorem hiV_range (l : List PV) (k : Nat) : -1 ≤ hiV l k ∧ hiV l k ≤ 4 := by
  obtain ⟨h1, h2⟩ := loV_range l k
  unfold hiV
  generalize loV l k = x at h1 h2
  have w1 : IntKind.wrap .i64 (x + 1) = x + 1 := wrapI (by omega) (by omega)
  have w2 : IntKind.wrap .i64 (x + 2) = x + 2 := wrapI (by omega) (by omega)
  refine among_range (t := hiT x) (a := -1) (b := 4) ?_ (by omega) (by omega) l _
  unfold hiT
  rw [w1, w2]
  simp only [List.all_cons, List.all_nil, PV.asInt, Bool.and_eq_true, decide_eq_true_eq]
  exact ⟨⟨dT (by omega), dT (by omega)⟩, ⟨dT (by omega), dT (by omega)⟩, ⟨dT (by omega), dT (by omega)⟩, ⟨dT (by omega), dT (by omega)⟩, ⟨dT (by omega), dT (by omega)⟩, trivial⟩
theorem dAlts_facts {rec : Nat → List PatT × Nat} {d B : Nat} (h : ∀ k, k ≤ (rec k).2 ∧ (rec k).2 ≤ k + B ∧ (rec k).1.length ≤ 1000 ∧ shPt d (rec k).1) : ∀ c k, k ≤ (dAlts rec c k).2 ∧ (dAlts rec c k).2 ≤ k + c * B ∧ (dAlts rec c k).1.length = c ∧ shAl d (dAlts rec c k).1
  | 0, k => ⟨Nat.le_refl _, by simp [dAlts], rfl, by simp only [dAlts, shAl]⟩
  | c + 1, k => by
    obtain ⟨a1, a2, a3, a4⟩ := h k
    obtain ⟨b1, b2, b3, b4⟩ := dAlts_facts h c (rec k).2
    have e : (c + 1) * B = c * B + B := Nat.succ_mul c B
    unfold dAlts
    refine ⟨by show k ≤ (dAlts rec c (rec k).2).2; omega, by show (dAlts rec c (rec k).2).2 ≤ _; omega, by show List.length (_ :: _) = _; rw [List.length_cons, b3], ?_⟩
    show shAl d (_ :: _)
    unfold shAl
    exact ⟨a3, a4, b4⟩
theorem dMany_facts {one : Nat → PatT × Nat} {d B : Nat} (h : ∀ k, k ≤ (one k).2 ∧ (one k).2 ≤ k + B ∧ shPt d [(one k).1]) : ∀ c k, k ≤ (dMany one c k).2 ∧ (dMany one c k).2 ≤ k + c * B ∧ (dMany one c k).1.length = c ∧ shPt d (dMany one c k).1
  | 0, k => ⟨Nat.le_refl _, by simp [dMany], rfl, by simp only [dMany, shPt]⟩
  | c + 1, k => by
    obtain ⟨a1, a2, a4⟩ := h k
    obtain ⟨b1, b2, b3, b4⟩ := dMany_facts h c (one k).2
    have e : (c + 1) * B = c * B + B := Nat.succ_mul c B
    unfold dMany
    refine ⟨by show k ≤ (dMany one c (one k).2).2; omega, by show (dMany one c (one k).2).2 ≤ _; omega, by show List.length (_ :: _) = _; rw [List.length_cons, b3], ?_⟩
    show shPt d (_ :: _)
    exact (shPt_cons _ _).2 ⟨a4, b4⟩
theorem shOne {d : Nat} {l : List PV} {k : Nat} {c t : ByteArray} {al : List (List PatT)} (hc : c.size ≤ 1000000) (ht : t.size ≤ 1000000) (hl : al.length ≤ 1000) (h0 : al = [] ∨ 0 < d) (ha : shAl (d - 1) al) : shPt d [.mk (loV l k) (hiV l k) c t al] := by
  obtain ⟨a1, a2⟩ := loV_range l k
  obtain ⟨b1, b2⟩ := hiV_range l k
  unfold shPt
  exact ⟨⟨by omega, by omega⟩, ⟨by omega, by omega⟩, hc, ht, hl, h0, ha, by simp only [shPt]⟩
theorem dOne_facts {n : Nat} {l : List PV} (hw : wfB n l = true) (deep : Bool) {rec : Nat → List PatT × Nat} {d B : Nat} (hd : deep = true → ∀ k, k ≤ (rec k).2 ∧ (rec k).2 ≤ k + B ∧ (rec k).1.length ≤ 1000 ∧ shPt d (rec k).1) (k : Nat) : k ≤ (dOne l deep rec k).2 ∧ (dOne l deep rec k).2 ≤ k + (4 + 2 * B) ∧ shPt (d + 1) [(dOne l deep rec k).1] ∧ (deep = false → shPt 0 [(dOne l deep rec k).1]) := by
  have z : ∀ e, shAl e [] := fun e => by simp only [shAl]
  unfold dOne
  cases pickV l (k + 1 + 1) 5 == 0 with
  | true =>
    have t1 : (textV l (k + 1 + 1 + 1) txT).size ≤ 1000000 := Nat.le_trans (text_size (m := 3) (by decide) l _) (by omega)
    refine ⟨by show k ≤ k + 1 + 1 + 1 + 1; omega, by show k + 1 + 1 + 1 + 1 ≤ _; omega, ?_, fun _ => ?_⟩
    · exact shOne (Nat.zero_le _) t1 (Nat.zero_le _) (.inl rfl) (z _)
    · exact shOne (Nat.zero_le _) t1 (Nat.zero_le _) (.inl rfl) (z _)
  | false =>
    cases pickV l (k + 1 + 1) 5 == 1 with
    | true =>
      cases deep with
      | true =>
        obtain ⟨p1, p2⟩ := pickV_range hw (k + 1 + 1 + 1) (m := 2) (by omega)
        obtain ⟨a1, a2, a3, a4⟩ := dAlts_facts (hd rfl) (1 + pickV l (k + 1 + 1 + 1) 2).toNat (k + 1 + 1 + 1 + 1)
        have hm : (1 + pickV l (k + 1 + 1 + 1) 2).toNat * B ≤ 2 * B := Nat.mul_le_mul_right _ (by omega)
        refine ⟨by show k ≤ (dAlts _ _ _).2; omega, by show (dAlts _ _ _).2 ≤ _; omega, ?_, fun h => by cases h⟩
        exact shOne (Nat.zero_le _) (Nat.zero_le _) (by rw [a3]; omega) (.inr (by omega)) a4
      | false =>
        refine ⟨by show k ≤ k + 1 + 1 + 1; omega, by show k + 1 + 1 + 1 ≤ _; omega, ?_, fun _ => ?_⟩
        · exact shOne (show 1 ≤ 1000000 by omega) (Nat.zero_le _) (Nat.zero_le _) (.inl rfl) (z _)
        · exact shOne (show 1 ≤ 1000000 by omega) (Nat.zero_le _) (Nat.zero_le _) (.inl rfl) (z _)
    | false =>
      have t1 : (textV l (k + 1 + 1 + 1) coT).size ≤ 1000000 := Nat.le_trans (text_size (m := 2) (by decide) l _) (by omega)
      refine ⟨by show k ≤ k + 1 + 1 + 1 + 1; omega, by show k + 1 + 1 + 1 + 1 ≤ _; omega, ?_, fun _ => ?_⟩
      · exact shOne t1 (Nat.zero_le _) (Nat.zero_le _) (.inl rfl) (z _)
      · exact shOne t1 (Nat.zero_le _) (Nat.zero_le _) (.inl rfl) (z _)
def lisC : Nat → Nat
  | 0 => 13
  | d + 1 => 1 + 3 * (4 + 2 * lisC d)
theorem drawP_facts {n : Nat} {l : List PV} (hw : wfB n l = true) : ∀ (d k : Nat), k ≤ (drawP l d k).2 ∧ (drawP l d k).2 ≤ k + lisC d ∧ (drawP l d k).1.length ≤ 1000 ∧ shPt d (drawP l d k).1
  | 0, k => by
    obtain ⟨p1, p2⟩ := pickV_range hw k (m := 3) (by omega)
    have h : ∀ k, k ≤ (dOne l false (fun k => ([], k)) k).2 ∧ (dOne l false (fun k => ([], k)) k).2 ≤ k + 4 ∧ shPt 0 [(dOne l false (fun k => ([], k)) k).1] := fun k => by
      obtain ⟨h1, h2, _, h4⟩ := dOne_facts hw false (rec := fun k => ([], k)) (d := 0) (B := 0) (fun h => by cases h) k
      exact ⟨h1, h2, h4 rfl⟩
    obtain ⟨a1, a2, a3, a4⟩ := dMany_facts h (1 + pickV l k 3).toNat (k + 1)
    unfold drawP lisC
    exact ⟨by omega, by omega, by rw [a3]; omega, a4⟩
  | d + 1, k => by
    obtain ⟨p1, p2⟩ := pickV_range hw k (m := 3) (by omega)
    have h : ∀ k, k ≤ (dOne l true (drawP l d) k).2 ∧ (dOne l true (drawP l d) k).2 ≤ k + (4 + 2 * lisC d) ∧ shPt (d + 1) [(dOne l true (drawP l d) k).1] := fun k => by
      obtain ⟨h1, h2, h3, _⟩ := dOne_facts hw true (rec := drawP l d) (d := d) (B := lisC d) (fun _ => drawP_facts hw d) k
      exact ⟨h1, h2, h3⟩
    obtain ⟨a1, a2, a3, a4⟩ := dMany_facts h (1 + pickV l k 3).toNat (k + 1)
    have hm : (1 + pickV l k 3).toNat * (4 + 2 * lisC d) ≤ 3 * (4 + 2 * lisC d) := Nat.mul_le_mul_right _ (by omega)
    unfold drawP
    rw [show lisC (d + 1) = 1 + 3 * (4 + 2 * lisC d) from rfl]
    exact ⟨by omega, by omega, by rw [a3]; omega, a4⟩
theorem drawP_eq (l : List PV) (f k : Nat) : drawP l f k = dMany (oneP l f) (1 + pickV l k 3).toNat (k + 1) := by cases f <;> rfl
theorem oneP_eq (l : List PV) (f k : Nat) : oneP l f k = dOne l (decide (0 < f)) (drawP l (f - 1)) k := by
  cases f with
  | zero => unfold oneP dOne; rfl
  | succ f => rfl
theorem oneP_le {n : Nat} {l : List PV} (hw : wfB n l = true) {f : Nat} (hf : f ≤ 2) (k : Nat) : k ≤ (oneP l f k).2 ∧ (oneP l f k).2 ≤ k + 186 := by
  rw [oneP_eq]
  obtain ⟨h1, h2, _, _⟩ := dOne_facts hw (decide (0 < f)) (rec := drawP l (f - 1)) (d := f - 1) (B := lisC (f - 1)) (fun _ => drawP_facts hw (f - 1)) k
  have : lisC (f - 1) ≤ 91 := by
    have : f = 0 ∨ f = 1 ∨ f = 2 := by omega
    rcases this with rfl | rfl | rfl <;> decide
  exact ⟨h1, by omega⟩
theorem oPt_snoc (acc : List PatT) (p : PatT) : oPt 5 (acc ++ [p]) = ((.own 20480, some (.lst 5 29 (acc.length + 1) (encPt acc ++ [.int .i64 p.low, .int .i64 p.high, .str p.codes, .str p.text, .sl p.alts.length (encAl p.alts)]) false)) : AV × Option Ob) := by
  unfold oPt
  rw [List.length_append, encPt_app, encPt_cons, encPt_nil]
  rfl
theorem lAl_snoc (al : List (List PatT)) (p : List PatT) : lAl (al ++ [p]) = .lst 1 23 (al.length + 1) (encAl al ++ [.sl p.length (encPt p)]) false := by
  unfold lAl
  rw [List.length_append, encAl_app, encAl_cons, encAl_nil]
  rfl
theorem wfI4 (a b c d : Int) : wfI 4 [.int .i64 a, .int .i64 b, .int .i64 c, .int .i64 d] = true := rfl
theorem wfI5 (a b c d e : Int) : wfI 5 [.int .i64 a, .int .i64 b, .int .i64 c, .int .i64 d, .int .i64 e] = true := rfl
theorem wfT5 (a b c d e : ByteArray) : wfT 5 [.str a, .str b, .str c, .str d, .str e] = true := rfl
theorem wfT10 (a b c d e a' b' c' d' e' : ByteArray) : wfT 10 [.str a, .str b, .str c, .str d, .str e, .str a', .str b', .str c', .str d', .str e'] = true := rfl
theorem five1 (a b c d e : PV) : Nat.beq (List.length [a, b, c, d, e]) (1 * 5) = true := rfl
theorem cast1 (x : Nat) : (x : Int) + 1 = ((x + 1 : Nat) : Int) := by omega
theorem ok_gkb0 (f : Nat) (hX : EntryOk Try.prog 15 (E_drawX f)) : EntriesOk Try.prog (gkb0 f) := ⟨hX, ok_dab5⟩
theorem drawB_loop (f : Nat) (hf : f ≤ 2) (h0 : 0 < f) {n : Nat} {l : List PV} (hw : wfB n l = true) (hn : n ≤ 1048577) (e m : Nat) (c : List PV) (i lo hi : Int) (co tx : ByteArray) : ∀ (j k : Nat) (al : List (List PatT)), j ≤ 2 → k + 10000 * f + 200 * j ≤ 903000 → al.length + j ≤ 10 →
    LoopsTo (rdB brC Try.prog (gkb0 f) lp_draw (LO_draw f) Try.f15 14 [0]) [aB0 (sk n l k), aI f, ((.own 20480, some (.lst 5 e m c false)) : AV × Option Ob), aI i, aBx 7 [.pv (.int .i64 lo), .pv (.int .i64 hi), .pv (.str co), .pv (.str tx), lAl al], aI j]
      (.exit 3, [aB0 (sk n l (dAlts (drawP l (f - 1)) j k).2), aI f, ((.own 20480, some (.lst 5 e m c false)) : AV × Option Ob), aI i, aBx 7 [.pv (.int .i64 lo), .pv (.int .i64 hi), .pv (.str co), .pv (.str tx), lAl (al ++ (dAlts (drawP l (f - 1)) j k).1)]]) := by
  intro j
  induction j with
  | zero =>
    intro k al hj hk hal
    have tree := r_drawB_eq f n l k (seedK l k) e m c i lo hi co tx al (0 : Nat)
    rw [dF (by omega)] at tree
    unfold dAlts
    rw [List.append_nil]
    exact .done _ _ tree
  | succ j ih =>
    intro k al hj hk hal
    obtain ⟨a1, a2, a3, a4⟩ := drawP_facts hw (f - 1) k
    have hC : lisC (f - 1) ≤ 91 := by
      have : f = 1 ∨ f = 2 := by omega
      rcases this with rfl | rfl <;> decide
    have ih' := ih (drawP l (f - 1) k).2 (al ++ [(drawP l (f - 1) k).1]) (by omega) (by omega) (by rw [List.length_append, List.length_singleton]; omega)
    have tree := r_drawB_eq f n l k (seedK l k) e m c i lo hi co tx al (j + 1 : Nat)
    have s0 := srcOk_mk hw (show k ≤ 1048576 by omega) hn
    have w1 : IntKind.wrap .i64 ((f : Int) - 1) = (f : Int) - 1 := wrapI (by omega) (by omega)
    have w2 : IntKind.wrap .i64 (((j + 1 : Nat) : Int) - 1) = (j : Int) := by rw [wrapI (by omega) (by omega)]; omega
    have b1 : ∀ p : PV, Nat.beq (List.length [p]) (1 * 1) = true := fun _ => rfl
    rw [lAl_snoc] at ih'
    unfold dAlts
    rw [show al ++ (((drawP l (f - 1) k).1 :: (dAlts (drawP l (f - 1)) j (drawP l (f - 1) k).2).1, (dAlts (drawP l (f - 1)) j (drawP l (f - 1) k).2).2) : List (List PatT) × Nat).1 = al ++ [(drawP l (f - 1) k).1] ++ (dAlts (drawP l (f - 1)) j (drawP l (f - 1) k).2).1 by simp]
    simp (disch := omega) only [s0, w1, w2, b1, drawW, Int.toNat_natCast, dT, beq_self_eq_true, Bool.and_true, Bool.true_and] at tree
    exact .step _ _ _ tree ih'
theorem drawA_loop (f : Nat) (hf : f ≤ 2) (h0 : 0 < f) {n : Nat} {l : List PV} (hw : wfB n l = true) (hn : n ≤ 1048577) (e m : Nat) (c : List PV) (i lo hi : Int) (co tx : ByteArray) (j k : Nat) (hj1 : 1 ≤ j) (hj : j ≤ 2) (hk : k + 10000 * f ≤ 902000) :
    LoopsTo (rdB brC Try.prog (gkb0 f) lp_draw (LO_draw f) Try.f15 14 [0]) [aB0 (sk n l k), aI f, ((.own 20480, some (.lst 5 e m c false)) : AV × Option Ob), aI i, aBx 7 [.pv (.int .i64 lo), .pv (.int .i64 hi), .pv (.str co), .pv (.str tx), .pv .nils], aI j]
      (.exit 3, [aB0 (sk n l (altsW l f j k).2), aI f, ((.own 20480, some (.lst 5 e m c false)) : AV × Option Ob), aI i, aBx 7 [.pv (.int .i64 lo), .pv (.int .i64 hi), .pv (.str co), .pv (.str tx), lAl (altsW l f j k).1]]) := by
  obtain ⟨j, rfl⟩ : ∃ q, j = q + 1 := ⟨j - 1, by omega⟩
  obtain ⟨a1, a2, a3, a4⟩ := drawP_facts hw (f - 1) k
  have hC : lisC (f - 1) ≤ 91 := by
    have : f = 1 ∨ f = 2 := by omega
    rcases this with rfl | rfl <;> decide
  have ih' := drawB_loop f hf h0 hw hn e m c i lo hi co tx j (drawP l (f - 1) k).2 [(drawP l (f - 1) k).1] (by omega) (by omega) (by rw [List.length_singleton]; omega)
  have tree := r_drawA_eq f n l k (seedK l k) e m c i lo hi co tx (j + 1 : Nat)
  have s0 := srcOk_mk hw (show k ≤ 1048576 by omega) hn
  have w1 : IntKind.wrap .i64 ((f : Int) - 1) = (f : Int) - 1 := wrapI (by omega) (by omega)
  have w2 : IntKind.wrap .i64 (((j + 1 : Nat) : Int) - 1) = (j : Int) := by rw [wrapI (by omega) (by omega)]; omega
  unfold altsW dAlts
  simp (disch := omega) only [s0, w1, w2, drawW, Int.toNat_natCast, dT, beq_self_eq_true, Bool.and_true, Bool.true_and] at tree
  have e1 : lAl [(drawP l (f - 1) k).1] = .lst 1 23 1 [.sl (drawP l (f - 1) k).1.length (encPt (drawP l (f - 1) k).1)] false := lAl_snoc [] _ |>.trans (by rw [encAl_nil]; rfl)
  rw [e1] at ih'
  exact .step _ _ _ tree ih'

theorem draw_loop (f : Nat) (hf : f ≤ 2) {n : Nat} {l : List PV} (hw : wfB n l = true) (hn : n ≤ 1048577) : ∀ (i k : Nat) (c : List PatT), i ≤ 3 → k + 10000 * f + 200 * i ≤ 901900 → c.length + i ≤ 10 →
    LoopsTo (rdB brC Try.prog (gkb0 f) lp_draw (LO_draw f) Try.f15 3 [0]) [aB0 (sk n l k), aI f, oPt 5 c, aI i] (.exit 0, [aB0 (sk n l (manyW l f i k).2), oPt 5 (c ++ (manyW l f i k).1)]) := by
  intro i
  induction i with
  | zero =>
    intro k c hi hk hc
    have tree := r_draw_eq f n l k (seedK l k) c (0 : Nat)
    rw [dF (by omega)] at tree
    unfold manyW dMany
    rw [List.append_nil]
    exact .done _ _ tree
  | succ i ih =>
    intro k c hi hk hc
    obtain ⟨o1, o2⟩ := oneP_le hw hf k
    have ih' := ih (oneP l f k).2 (c ++ [(oneP l f k).1]) (by omega) (by omega) (by rw [List.length_append, List.length_singleton]; omega)
    have s0 := srcOk_mk hw (show k ≤ 1048576 by omega) hn
    have s1 := srcOk_mk hw (show k + 1 ≤ 1048576 by omega) hn
    have s2 := srcOk_mk hw (show k + 1 + 1 ≤ 1048576 by omega) hn
    have s3 := srcOk_mk hw (show k + 1 + 1 + 1 ≤ 1048576 by omega) hn
    have s4 := srcOk_mk hw (show k + 1 + 1 + 1 + 1 ≤ 1048576 by omega) hn
    have w2 : IntKind.wrap .i64 (((i + 1 : Nat) : Int) - 1) = (i : Int) := by rw [wrapI (by omega) (by omega)]; omega
    obtain ⟨p1, p2⟩ := pickV_range hw (k + 1 + 1 + 1) (m := 2) (by omega)
    have w3 : IntKind.wrap .i64 (1 + pickV l (k + 1 + 1 + 1) 2) = 1 + pickV l (k + 1 + 1 + 1) 2 := wrapI (by omega) (by omega)
    have eM : (manyW l f (i + 1) k) = ((oneP l f k).1 :: (manyW l f i (oneP l f k).2).1, (manyW l f i (oneP l f k).2).2) := rfl
    rw [eM, show c ++ (((oneP l f k).1 :: (manyW l f i (oneP l f k).2).1, (manyW l f i (oneP l f k).2).2) : List PatT × Nat).1 = c ++ [(oneP l f k).1] ++ (manyW l f i (oneP l f k).2).1 by simp]
    rw [oPt_snoc] at ih'
    have tree := r_draw_eq f n l k (seedK l k) c (i + 1 : Nat)
    simp (disch := omega) only [cast1, Int.toNat_natCast, s0, s1, s2, s3, s4, w2, w3, wfI4, wfI5, wfT5, wfT10, five1, dT, Bool.and_true, Bool.true_and] at tree
    rw [oneP_eq] at ih' ⊢
    unfold dOne at ih' ⊢
    have eE : encAl [] = [] := encAl_nil
    cases h0 : (pickV l (k + 1 + 1) 5 == 0) with
    | true =>
      rw [h0] at tree ih'
      simp only [cond_true, PatT.low, PatT.high, PatT.codes, PatT.text, PatT.alts, List.length_nil, eE] at ih' ⊢
      exact .step _ _ _ tree ih'
    | false =>
      rw [h0] at tree ih'
      cases h1 : (pickV l (k + 1 + 1) 5 == 1) with
      | true =>
        rw [h1] at tree ih'
        by_cases hp : 0 < f
        · rw [dT (show (f : Int) > 0 by omega)] at tree
          rw [dT hp] at ih' ⊢
          simp (disch := omega) only [dT, beq_self_eq_true, Nat.beq_refl, Bool.and_true, Bool.true_and] at tree
          simp only [cond_true, cond_false, PatT.low, PatT.high, PatT.codes, PatT.text, PatT.alts, List.length_nil, eE] at ih' ⊢
          exact .step _ _ _ tree ih'
        · rw [dF (show ¬ (f : Int) > 0 by omega)] at tree
          rw [dF hp] at ih' ⊢
          simp only [cond_true, cond_false, PatT.low, PatT.high, PatT.codes, PatT.text, PatT.alts, List.length_nil, eE] at ih' ⊢
          exact .step _ _ _ tree ih'
      | false =>
        rw [h1] at tree ih'
        simp only [cond_false, PatT.low, PatT.high, PatT.codes, PatT.text, PatT.alts, List.length_nil, eE] at ih' ⊢
        exact .step _ _ _ tree ih'

theorem draw14 (f : Nat) : ∀ ls e ls', pickA (LO_draw f 14 ls) = some (e, ls') → LoopsTo (rdB brC Try.prog (gkb0 f) lp_draw (LO_draw f) Try.f15 14 [0]) ls (e, ls') := fun ls e ls' hl => by
  unfold LO_draw at hl
  split at hl
  · rename_i hh; cases hh
  · split at hl
    · rename_i n l a g k x e' m c i y lo hi co tx j
      obtain ⟨hc, he⟩ := pick1 hl
      cases he
      simp only [Bool.and_eq_true, decide_eq_true_eq, beq_iff_eq] at hc
      obtain ⟨⟨⟨⟨⟨⟨⟨⟨k0, k1⟩, k2⟩, k3⟩, k4⟩, k5⟩, k6⟩, k7⟩, k8⟩ := hc
      obtain rfl := Nat.eq_of_beq_eq_true k5
      obtain rfl := Nat.eq_of_beq_eq_true k6
      subst k3
      obtain ⟨q, rfl, hk, hn, rfl, hw⟩ := srcOk_inv k2
      obtain ⟨j', rfl⟩ := Int.eq_ofNat_of_zero_le (show 0 ≤ j by omega)
      exact drawA_loop f k0 k1 hw hn e' m c i lo hi co tx j' q (by omega) (by omega) (by omega)
    · cases hl
  · cases hl
theorem draw3 (f : Nat) : ∀ ls e ls', pickA (LO_draw f 3 ls) = some (e, ls') → LoopsTo (rdB brC Try.prog (gkb0 f) lp_draw (LO_draw f) Try.f15 3 [0]) ls (e, ls') := fun ls e ls' hl => by
  unfold LO_draw at hl
  split at hl
  · split at hl
    · rename_i n l a g k x e' m c i
      obtain ⟨hc, he⟩ := pick1 hl
      cases he
      simp only [Bool.and_eq_true, decide_eq_true_eq, beq_iff_eq] at hc
      obtain ⟨⟨⟨⟨⟨⟨⟨⟨⟨k0, k1⟩, k2⟩, k3⟩, k4⟩, k5⟩, k6⟩, k7⟩, k8⟩, k9⟩ := hc
      obtain rfl := Nat.eq_of_beq_eq_true k4
      obtain rfl := Nat.eq_of_beq_eq_true k5
      obtain rfl := Nat.eq_of_beq_eq_true k6
      obtain rfl := nilB_inv k7
      subst k2
      obtain ⟨q, rfl, hk, hn, rfl, hw⟩ := srcOk_inv k1
      obtain ⟨i', rfl⟩ := Int.eq_ofNat_of_zero_le (show 0 ≤ i by omega)
      have := draw_loop f k0 hw hn i' q [] (by omega) (by omega) (by simp; omega)
      rw [show oPt 5 [] = ((.own 20480, some (.lst 5 29 0 [] false)) : AV × Option Ob) by unfold oPt; rw [encPt_nil]; rfl, List.nil_append] at this
      exact this
    · cases hl
  · rename_i hh; cases hh
  · cases hl
theorem ok_draw (f : Nat) (hX : EntryOk Try.prog 15 (E_drawX f)) : EntryOk Try.prog 15 (E_draw f) := entry_of mix (ok_gkb0 f hX) (lp := lp_draw) (LO := LO_draw f) ⟨Try.func15, by kernel_rfl, by kernel_rfl⟩ (by kernel_rfl) fun ivs res bxs h => by
  unfold E_draw at h
  split at h
  · rename_i n l a g k
    obtain ⟨hc, he⟩ := pick1 h
    cases he
    simp only [Bool.and_eq_true, decide_eq_true_eq, beq_iff_eq] at hc
    obtain ⟨⟨⟨k0, k1⟩, k2⟩, k3⟩ := hc
    subst k2
    obtain ⟨q, rfl, hk, hn, rfl, hw⟩ := srcOk_inv k1
    have hin : ∀ b ∈ loopsIn (loopAt 3 Try.f15), LoopOk Try.prog (tabL (gkb0 f)) (OL lp_draw) Try.f15.ntmps (pbOf [0]) (LO_draw f) b := by
      rw [show loopsIn (loopAt 3 Try.f15) = [loopAt 14 Try.f15] by kernel_rfl]
      intro b hb
      rw [List.mem_singleton.1 hb]
      refine loopOk_of (noLoop (by kernel_rfl)) fun key hk => ?_
      rw [show firstR (loopAt 14 Try.f15) = some 14 by kernel_rfl] at hk
      cases hk
      exact draw14 f
    refine ⟨manyLoops [3, 14] (by kernel_rfl) (fun k hk => by
      rcases List.mem_cons.1 hk with rfl | hk
      · kernel_rfl
      · rw [List.mem_singleton.1 hk]; kernel_rfl) (fun k hk => by
      rcases List.mem_cons.1 hk with rfl | hk
      · exact ⟨hin, draw3 f⟩
      · rw [List.mem_singleton.1 hk]; exact ⟨noLoop (by kernel_rfl), draw14 f⟩), (q_draw_eq f n l q _).trans ?_⟩
    obtain ⟨p1, p2⟩ := pickV_range hw q (m := 3) (by omega)
    have w3 : IntKind.wrap .i64 (1 + pickV l q 3) = 1 + pickV l q 3 := wrapI (by omega) (by omega)
    have s0 := srcOk_mk hw (show q ≤ 1048576 by omega) hn
    have s1 := srcOk_mk hw (show q + 1 ≤ 1048576 by omega) hn
    have e : drawW l f q = manyW l f (1 + pickV l q 3).toNat (q + 1) := drawP_eq l f q
    simp (disch := omega) only [cast1, Int.toNat_natCast, s0, s1, w3, dT, nilB, holds_true, beq_self_eq_true, Nat.beq_refl, Bool.and_true, Bool.true_and, e]
    rfl
  · cases h
theorem ok_drawX0 : EntryOk Try.prog 15 (E_drawX 0) := ⟨⟨_, Try.func15, by kernel_rfl, by kernel_rfl⟩, fun ivs res bxs h => by
  unfold E_drawX at h
  split at h
  · obtain ⟨hc, he⟩ := pick1 h
    cases hc
  · cases h⟩
theorem ok_drawXs {f : Nat} (hf : f ≤ 2) (hF : EntryOk Try.prog 15 (E_draw f)) : EntryOk Try.prog 15 (E_drawX (f + 1)) := ⟨hF.1, fun ivs res bxs h => by
  refine hF.2 ivs res bxs ?_
  unfold E_drawX at h
  split at h
  · rename_i n l a g k
    obtain ⟨hc, he⟩ := pick1 h
    cases he
    simp only [Bool.and_eq_true, decide_eq_true_eq, beq_iff_eq] at hc
    obtain ⟨⟨⟨k0, k1⟩, k2⟩, k3⟩ := hc
    show pickA [(decide (f ≤ 2) && srcOk n l a g && (k == (f : Int)) && decide (a ≤ 900000 - 10000 * (f : Int)), IV.cv (lPt false (drawW l f a.toNat).1), [sk n l (drawW l f a.toNat).2])] = _
    rw [dT hf, k1, show (k == (f : Int)) = true by rw [beq_iff_eq, k2]; omega, dT (show a ≤ 900000 - 10000 * (f : Int) by omega)]
    rfl
  · cases h⟩
theorem ok_draws : ∀ f : Nat, f ≤ 2 → EntryOk Try.prog 15 (E_draw f)
  | 0, _ => ok_draw 0 ok_drawX0
  | f + 1, h => ok_draw (f + 1) (ok_drawXs (by omega) (ok_draws f (by omega)))
theorem drawW_sh {n : Nat} {l : List PV} (hw : wfB n l = true) : shPts (drawW l 2 0).1 := by
  obtain ⟨_, _, a3, a4⟩ := drawP_facts hw 2 0
  exact ⟨a3, shPt_mono _ (by omega) a4⟩
end Go.Proofs.Ytdegegajoccdjaa
