/- Superblocks, by the reckoner: proofs. -/
import Derived.Test.YtdegegajoccdjaaBzT
namespace Go.Proofs.Ytdegegajoccdjaa
open Go.RowKit
set_option linter.unusedVariables false
set_option linter.unusedSimpArgs false
set_option maxRecDepth 100000

theorem ok_eqSeat : EntryOk Try.prog 51 E_eqSeat := entry_of mix (tab := []) trivial (lp := []) (LO := LO0) ⟨Try.func51, by kernel_rfl, by kernel_rfl⟩ (by kernel_rfl) fun ivs res bxs h => by
  unfold E_eqSeat at h
  split at h
  · rename_i p q
    obtain ⟨hc, he⟩ := pick1 h
    cases he
    obtain ⟨k0, k1⟩ := andE hc
    obtain ⟨x, rfl, hx⟩ := isE_inv k0
    obtain ⟨y, rfl, hy⟩ := isE_inv k1
    refine ⟨noLoop (by kernel_rfl), (q_eqSeat_eq x y).trans ?_⟩
    rw [show asSe (pSe x) = x from asSe_mk x, show asSe (pSe y) = y from asSe_mk y]
    unfold eqSe bne
    cases x.id == y.id <;> cases x.slot == y.slot <;> rfl
  · cases h
theorem ok_bzb0 : EntriesOk Try.prog bzb0 := ⟨ok_eqSeat, trivial⟩
theorem drop1_encSe (t : List SeT) (i : Nat) (h : i < t.length) : (encSe t).drop (i * 2 + 1) = PV.int .i64 t[i].slot :: encSe (t.drop (i + 1)) := by
  rw [← List.drop_drop, drop_encSe t i h]
  rfl
theorem eqS_loop (l m : List SeT) (hl : shSes l) (hm : shSes m) (he : l.length = m.length) : ∀ (c i : Nat), c + i = l.length → LoopsTo (rdB brC Try.prog bzb0 lp_eqS LO_eqS Try.f29 4 [0]) [aSL l, aP (pSes m), aI i] (if eqSes (l.drop i) (m.drop i) = true then (.exit 0, [aSL l, aX]) else (.ret, [aSL l, aB false])) := by
  have hn := hl.1
  intro c
  induction c with
  | zero =>
    intro i hi
    rw [List.drop_eq_nil_of_le (by omega), List.drop_eq_nil_of_le (by omega)]
    refine .done _ _ ((r_eqS_eq l m i).trans ?_)
    rw [dF (by omega)]
    rfl
  | succ c ih =>
    intro i hi
    have hil : i < l.length := by omega
    have him : i < m.length := by omega
    have tree := r_eqS_eq l m i
    have w1 : IntKind.wrap .i64 ((i : Int) + 1) = ((i + 1 : Nat) : Int) := by rw [wrapI (by omega) (by omega)]; omega
    have ih' := ih (i + 1) (by omega)
    rw [w1] at tree
    simp (disch := first | omega | rfl) only [drop_encSe l i hil, drop_encSe m i him, isSe_mk (shSe_at hl hil), isSe_mk (shSe_at hm him), asSe_mk, encSe_len, decide_true, dT, Int.toNat_natCast, List.length_cons, List.headD_cons, List.tail_cons, List.drop_zero, List.drop_succ_cons, PV.isStr, PV.asStr, PV.isSl, PV.slN, PV.slL, PV.isInt, PV.asInt, PV.isBool, PV.asBool, ble1, ble2, ble3, ble4, ble5, ble6, blt0, wrap1, Bool.and_true, Bool.true_and] at tree
    rw [Nat.ble_eq_true_of_le (show i * 2 ≤ l.length * 2 by omega)] at tree
    rw [List.drop_eq_getElem_cons hil, List.drop_eq_getElem_cons him]
    unfold eqSes
    cases hx : eqSe l[i] m[i] with
    | false =>
      rw [hx] at tree
      simp only [Bool.false_and, if_neg Bool.false_ne_true]
      exact .done _ _ tree
    | true =>
      rw [hx] at tree
      simp only [Bool.true_and]
      exact .step _ _ _ tree ih'
theorem mark_len : ∀ (k : Int) (l : List SeT), (markL k l).length = l.length
  | _, [] => rfl
  | k, _ :: t => by show (markL (k + 2) t).length + 1 = t.length + 1; rw [mark_len]
theorem put0 (A B : List SeT) (x : SeT) (p : PV) : List.take (A.length * 2 + 0) (encSe (A ++ x :: B)) ++ [p] ++ List.drop (A.length * 2 + 0 + 1) (encSe (A ++ x :: B)) = encSe A ++ p :: .int .i64 x.slot :: encSe B := by
  rw [encSe_app]
  have e := encSe_len A
  have e2 : encSe (x :: B) = .int .i64 x.id :: .int .i64 x.slot :: encSe B := rfl
  rw [e2, Nat.add_zero, ← e, List.take_left', List.drop_append, List.drop_eq_nil_of_le (by omega)]
  · simp
  · rfl
theorem put1 (A B : List SeT) (q r p : PV) : List.take (A.length * 2 + 1) (encSe A ++ q :: r :: encSe B) ++ [p] ++ List.drop (A.length * 2 + 1 + 1) (encSe A ++ q :: r :: encSe B) = encSe A ++ q :: p :: encSe B := by
  have e := encSe_len A
  rw [← e, List.take_append, List.drop_append, List.take_of_length_le (by omega), List.drop_eq_nil_of_le (by omega)]
  rw [show (encSe A).length + 1 - (encSe A).length = 1 by omega, show (encSe A).length + 1 + 1 - (encSe A).length = 2 by omega]
  simp
theorem mark_loop : ∀ (B A : List SeT) (k : Nat), k + 2 * B.length ≤ 300000 → A.length + B.length ≤ 100000 →
    LoopsTo (rdB brC Try.prog [] lp_markS LO_markS Try.f30 2 [0]) [aSL (A ++ B), aI k, aI A.length] (.exit 0, [aSL (A ++ markL k B), aI ((k + 2 * B.length : Nat) : Int)]) := by
  intro B
  induction B with
  | nil =>
    intro A k h1 h2
    refine .done _ _ ((r_markS_eq _ _ _).trans ?_)
    rw [List.append_nil, dF (by omega), show markL k [] = [] from rfl, List.append_nil]
    rfl
  | cons x B ih =>
    intro A k h1 h2
    have hl : (A ++ x :: B).length = A.length + (B.length + 1) := by rw [List.length_append, List.length_cons]
    rw [List.length_cons] at h1 h2
    have tree := r_markS_eq (A ++ x :: B) k A.length
    have w1 : IntKind.wrap .i64 ((A.length : Int) + 1) = ((A.length + 1 : Nat) : Int) := by rw [wrapI (by omega) (by omega)]; omega
    have w2 : IntKind.wrap .i64 ((k : Int) + 1) = (k : Int) + 1 := by rw [wrapI (by omega) (by omega)]
    have w3 : IntKind.wrap .i64 ((k : Int) + 1 + 1) = ((k + 2 : Nat) : Int) := by rw [wrapI (by omega) (by omega)]; omega
    rw [Int.toNat_natCast, put0, put1, w2, w3, w1, encSe_len, hl] at tree
    rw [show (encSe A ++ PV.int .i64 k :: PV.int .i64 x.slot :: encSe B).length = A.length * 2 + (B.length * 2 + 1 + 1) by rw [List.length_append, encSe_len, List.length_cons, List.length_cons, encSe_len]] at tree
    rw [dT (show (A.length : Int) < ((A.length + (B.length + 1) : Nat) : Int) by omega), dT (show (0 : Int) ≤ (A.length : Int) by omega)] at tree
    rw [Nat.ble_eq_true_of_le (show A.length * 2 + 0 + 1 ≤ (A.length + (B.length + 1)) * 2 by omega), Nat.ble_eq_true_of_le (show A.length * 2 + 1 + 1 ≤ A.length * 2 + (B.length * 2 + 1 + 1) by omega)] at tree
    have := ih (A ++ [⟨(k : Int), (k : Int) + 1⟩]) (k + 2) (by omega) (by rw [List.length_append, List.length_singleton]; omega)
    rw [show (A ++ [(⟨(k : Int), (k : Int) + 1⟩ : SeT)]).length = A.length + 1 from by rw [List.length_append]; rfl, List.append_assoc, List.append_assoc, show k + 2 + 2 * B.length = k + 2 * (B.length + 1) by omega] at this
    have e : encSe (A ++ ([(⟨(k : Int), (k : Int) + 1⟩ : SeT)] ++ B)) = encSe A ++ PV.int .i64 k :: PV.int .i64 ((k : Int) + 1) :: encSe B := encSe_app _ _
    have e2 : (A ++ ([(⟨(k : Int), (k : Int) + 1⟩ : SeT)] ++ B)).length = A.length + (B.length + 1) := by rw [List.length_append]; rfl
    have ec : ((k + 2 : Nat) : Int) = (k : Int) + 2 := by omega
    rw [ec] at tree
    unfold aSL at this ⊢
    rw [e, e2, ec] at this
    exact .step _ _ _ tree this
theorem held_loop : ∀ (B A : List SeT) (k : Nat), k + 2 * B.length ≤ 300000 → A.length + B.length ≤ 100000 → B = markL k B →
    LoopsTo (rdB brC Try.prog [] lp_heldS LO_heldS Try.f31 2 [0]) [aSL (A ++ B), aI k, aI A.length] (.exit 0, [aSL (A ++ B), aI ((k + 2 * B.length : Nat) : Int)]) := by
  intro B
  induction B with
  | nil =>
    intro A k h1 h2 h3
    refine .done _ _ ((r_heldS_eq _ _ _).trans ?_)
    rw [List.append_nil, dF (by omega)]
    rfl
  | cons x B ih =>
    intro A k h1 h2 h3
    have hx : x = ⟨(k : Int), (k : Int) + 1⟩ := by injection h3
    have hB : B = markL ((k : Int) + 2) B := by injection h3
    obtain rfl := hx
    have hl : (A ++ (⟨(k : Int), (k : Int) + 1⟩ : SeT) :: B).length = A.length + (B.length + 1) := by rw [List.length_append, List.length_cons]
    rw [List.length_cons] at h1 h2
    generalize hx : (⟨(k : Int), (k : Int) + 1⟩ : SeT) = x at *
    have x1 : x.id = (k : Int) := by rw [← hx]
    have x2 : x.slot = (k : Int) + 1 := by rw [← hx]
    have hi : A.length < (A ++ x :: B).length := by omega
    have hg : (A ++ x :: B)[A.length] = x := by simp
    have tree := r_heldS_eq (A ++ x :: B) k A.length
    have w1 : IntKind.wrap .i64 ((A.length : Int) + 1) = ((A.length + 1 : Nat) : Int) := by rw [wrapI (by omega) (by omega)]; omega
    have w2 : IntKind.wrap .i64 ((k : Int) + 1) = (k : Int) + 1 := by rw [wrapI (by omega) (by omega)]
    have w3 : IntKind.wrap .i64 ((k : Int) + 1 + 1) = ((k + 2 : Nat) : Int) := by rw [wrapI (by omega) (by omega)]; omega
    rw [Int.toNat_natCast, Nat.add_zero, drop_encSe _ _ hi, drop1_encSe _ _ hi, hg, x1, x2, w2, w3, w1, encSe_len] at tree
    rw [hl] at tree
    simp only [List.length_cons, List.headD_cons, PV.isInt, PV.asInt, decide_true] at tree
    rw [dT (show (A.length : Int) < ((A.length + (B.length + 1) : Nat) : Int) by omega), dT (show (0 : Int) ≤ (A.length : Int) by omega)] at tree
    rw [Nat.ble_eq_true_of_le (show A.length * 2 ≤ (A.length + (B.length + 1)) * 2 by omega), Nat.ble_eq_true_of_le (show A.length * 2 + 1 ≤ (A.length + (B.length + 1)) * 2 by omega), blt0, blt0] at tree
    rw [show ((k : Int) != (k : Int)) = false from bne_self_eq_false _, show (((k : Int) + 1) != ((k : Int) + 1)) = false from bne_self_eq_false _] at tree
    have := ih (A ++ [x]) (k + 2) (by omega) (by rw [List.length_append, List.length_singleton]; omega) hB
    rw [show (A ++ [x]).length = A.length + 1 from by rw [List.length_append]; rfl, List.append_assoc, show k + 2 + 2 * B.length = k + 2 * (B.length + 1) by omega, show [x] ++ B = x :: B from rfl] at this
    rw [← hl] at tree
    exact .step _ _ _ tree this
theorem pick_or {α : Type} {a b : List (Bool × α)} {x : α} (h : pickA (a ++ b) = some x) : pickA a = some x ∨ pickA b = some x := by
  induction a with
  | nil => exact .inr h
  | cons y a ih =>
    obtain ⟨c, z⟩ := y
    cases c with
    | true => exact .inl h
    | false => exact ih h
theorem entry_or {P : Program} {g : FuncId} {E1 E2 : Entry} (h1 : EntryOk P g E1) (h2 : EntryOk P g E2) : EntryOk P g (fun ivs => E1 ivs ++ E2 ivs) :=
  ⟨h1.1, fun ivs res bxs h => (pick_or h).elim (h1.2 ivs res bxs) (h2.2 ivs res bxs)⟩
theorem eqSe_refl (x : SeT) : eqSe x x = true := by unfold eqSe; simp
theorem eqSes_refl : ∀ l : List SeT, eqSes l l = true
  | [] => rfl
  | x :: t => by unfold eqSes; rw [eqSe_refl, eqSes_refl t]; rfl
theorem loops_eqS : ∀ b ∈ loopsIn (bodyOf Try.f29), LoopOk Try.prog (tabL bzb0) (OL lp_eqS) Try.f29.ntmps (pbOf [0]) LO_eqS b := by
  refine oneLoop 4 (by kernel_rfl) (by kernel_rfl) (by kernel_rfl) ?_
  intro ls e ls' hl
  replace hl : pickA (LO_eqS 4 ls) = some (e, ls') := hl
  unfold LO_eqS at hl
  split at hl
  · rename_i x e0 n l p i
    have fin : (isSes (.sl n l) && Nat.beq e0 50 && Nat.beq x 0 && isSes p && (i == 0) && decide ((asSes (.sl n l)).length = (asSes p).length)) = true → LoopsTo (rdB brC Try.prog bzb0 lp_eqS LO_eqS Try.f29 4 [0]) [(.own x, some (.lst 2 e0 n l true)), (.pv p, none), (.pv (.int .i64 i), none)] (if eqSes (asSes (.sl n l)) (asSes p) = true then (.exit 0, [(.own 0, some (.lst 2 e0 n l true)), aX]) else (.ret, [(.own 0, some (.lst 2 e0 n l true)), aB false])) := by
      intro hc
      obtain ⟨hc, k5⟩ := andE hc
      obtain ⟨hc, k4⟩ := andE hc
      obtain ⟨hc, k3⟩ := andE hc
      obtain ⟨hc, k2⟩ := andE hc
      obtain ⟨k0, k1⟩ := andE hc
      obtain ⟨t, q_t, h_t⟩ := isE_inv k0
      injection q_t with qa qb
      subst qa
      subst qb
      obtain rfl := Nat.eq_of_beq_eq_true k1
      have e_t : asSes (.sl _ _) = t := asSes_mk t
      have i_t := isSes_mk h_t
      obtain rfl := Nat.eq_of_beq_eq_true k2
      obtain ⟨m, rfl, h_m⟩ := isE_inv k3
      have e_m : asSes (pSes m) = m := asSes_mk m
      rw [e_t, e_m] at k5 ⊢
      obtain rfl := eq_of_beq k4
      exact eqS_loop t m h_t h_m (of_decide_eq_true k5) t.length 0 (by omega)
    rcases pick2 hl with ⟨hc, he⟩ | ⟨hn, hc, he⟩
    · cases he
      obtain ⟨hc, k⟩ := andE hc
      have := fin hc
      rwa [if_pos k] at this
    · cases he
      have := fin hc
      rwa [if_neg (fun k => by rw [hc, k] at hn; cases hn)] at this
  · cases hl
theorem loops_eqS0 : ∀ b ∈ loopsIn (bodyOf Try.f29), LoopOk Try.prog (tabL bzb0) (OL lp_eqS) Try.f29.ntmps (pbOf []) LO_eqS0 b := by
  refine oneLoop 4 (by kernel_rfl) (by kernel_rfl) (by kernel_rfl) ?_
  intro ls e ls' hl
  replace hl : pickA (LO_eqS0 4 ls) = some (e, ls') := hl
  unfold LO_eqS0 at hl
  split at hl
  · rename_i i
    obtain ⟨hc, he⟩ := pick1 hl
    cases he
    obtain rfl := eq_of_beq hc
    exact .done _ _ r_eqS0_eq
  · cases hl
theorem ok_eqS1 : EntryOk Try.prog 29 E_eqS1 := entry_of mix ok_bzb0 (lp := lp_eqS) (LO := LO_eqS) ⟨Try.func29, by kernel_rfl, by kernel_rfl⟩ (by kernel_rfl) fun ivs res bxs h => by
  unfold E_eqS1 at h
  split at h
  · rename_i e n l q
    obtain ⟨hc, he⟩ := pick1 h
    cases he
    obtain ⟨hc, k2⟩ := andE hc
    obtain ⟨k0, k1⟩ := andE hc
    obtain ⟨t, q_t, h_t⟩ := isE_inv k0
    injection q_t with qa qb
    subst qa
    subst qb
    obtain rfl := Nat.eq_of_beq_eq_true k1
    have e_t : asSes (.sl _ _) = t := asSes_mk t
    have i_t := isSes_mk h_t
    obtain ⟨m, rfl, h_m⟩ := isE_inv k2
    have e_m : asSes (pSes m) = m := asSes_mk m
    have i_m := isSes_mk h_m
    refine ⟨loops_eqS, (q_eqS_eq t m).trans ?_⟩
    rw [e_t, e_m, k0, k2]
    by_cases hlen : t.length = m.length
    · rw [show ((t.length : Int) != (m.length : Int)) = false by rw [hlen]; exact bne_self_eq_false _, dT hlen, show Nat.beq t.length t.length = true from Nat.beq_refl _]
      cases eqSes t m <;> rfl
    · rw [show ((t.length : Int) != (m.length : Int)) = true from bne_iff_ne.2 (by omega), show Nat.beq t.length t.length = true from Nat.beq_refl _]
      have : ∀ (t m : List SeT), t.length ≠ m.length → eqSes t m = false := by
        intro t
        induction t with
        | nil => intro m h; cases m with | nil => exact absurd rfl h | cons => rfl
        | cons x t ih => intro m h; cases m with | nil => rfl | cons y m => unfold eqSes; rw [ih m (by simpa using h), Bool.and_false]
      rw [this t m hlen]
      rfl
  · cases h
theorem ok_eqS0 : EntryOk Try.prog 29 E_eqS0 := entry_of mix ok_bzb0 (lp := lp_eqS) (LO := LO_eqS0) ⟨Try.func29, by kernel_rfl, by kernel_rfl⟩ (by kernel_rfl) fun ivs res bxs h => by
  unfold E_eqS0 at h
  split at h
  · cases h
    exact ⟨loops_eqS0, q_eqS0_eq⟩
  · cases h
theorem ok_eqS : EntryOk Try.prog 29 E_eqS := entry_or ok_eqS1 ok_eqS0
theorem loops_markS : ∀ b ∈ loopsIn (bodyOf Try.f30), LoopOk Try.prog (tabL []) (OL lp_markS) Try.f30.ntmps (pbOf [0]) LO_markS b := by
  refine oneLoop 2 (by kernel_rfl) (by kernel_rfl) (by kernel_rfl) ?_
  intro ls e ls' hl
  replace hl : pickA (LO_markS 2 ls) = some (e, ls') := hl
  unfold LO_markS at hl
  split at hl
  · rename_i x e0 n l k i
    obtain ⟨hc, he⟩ := pick1 hl
    cases he
    obtain ⟨hc, k4⟩ := andE hc
    obtain ⟨hc, k3⟩ := andE hc
    obtain ⟨hc, k2⟩ := andE hc
    obtain ⟨k0, k1⟩ := andE hc
    obtain ⟨t, q_t, h_t⟩ := isE_inv k0
    injection q_t with qa qb
    subst qa
    subst qb
    obtain rfl := Nat.eq_of_beq_eq_true k1
    have e_t : asSes (.sl _ _) = t := asSes_mk t
    have i_t := isSes_mk h_t
    obtain rfl := Nat.eq_of_beq_eq_true k2
    obtain rfl := eq_of_beq k3
    obtain rfl := eq_of_beq k4
    rw [e_t]
    have hb := h_t.1
    have := mark_loop t [] 1 (by omega) (by rw [List.length_nil]; omega)
    rw [List.nil_append, List.nil_append, show 1 + 2 * t.length = 2 * t.length + 1 by omega] at this
    exact this
  · cases hl
theorem loops_markS0 : ∀ b ∈ loopsIn (bodyOf Try.f30), LoopOk Try.prog (tabL []) (OL lp_markS) Try.f30.ntmps (pbOf []) LO_markS0 b := by
  refine oneLoop 2 (by kernel_rfl) (by kernel_rfl) (by kernel_rfl) ?_
  intro ls e ls' hl
  replace hl : pickA (LO_markS0 2 ls) = some (e, ls') := hl
  unfold LO_markS0 at hl
  split at hl
  · rename_i k i
    obtain ⟨hc, he⟩ := pick1 hl
    cases he
    obtain ⟨k0, k1⟩ := andE hc
    obtain rfl := eq_of_beq k0
    obtain rfl := eq_of_beq k1
    exact .done _ _ r_markS0_eq
  · cases hl
theorem ok_markS1 : EntryOk Try.prog 30 E_markS1 := entry_of mix (tab := []) trivial (lp := lp_markS) (LO := LO_markS) ⟨Try.func30, by kernel_rfl, by kernel_rfl⟩ (by kernel_rfl) fun ivs res bxs h => by
  unfold E_markS1 at h
  split at h
  · rename_i e n l k
    obtain ⟨hc, he⟩ := pick1 h
    cases he
    obtain ⟨hc, k2⟩ := andE hc
    obtain ⟨k0, k1⟩ := andE hc
    obtain ⟨t, q_t, h_t⟩ := isE_inv k0
    injection q_t with qa qb
    subst qa
    subst qb
    obtain rfl := Nat.eq_of_beq_eq_true k1
    have e_t : asSes (.sl _ _) = t := asSes_mk t
    have i_t := isSes_mk h_t
    obtain rfl := eq_of_beq k2
    refine ⟨loops_markS, (q_markS_eq t).trans ?_⟩
    rw [e_t, k0, mark_len, show Nat.beq t.length t.length = true from Nat.beq_refl _]
    rfl
  · cases h
theorem ok_markS0 : EntryOk Try.prog 30 E_markS0 := entry_of mix (tab := []) trivial (lp := lp_markS) (LO := LO_markS0) ⟨Try.func30, by kernel_rfl, by kernel_rfl⟩ (by kernel_rfl) fun ivs res bxs h => by
  unfold E_markS0 at h
  split at h
  · rename_i k
    obtain ⟨hc, he⟩ := pick1 h
    cases he
    obtain rfl := eq_of_beq hc
    exact ⟨loops_markS0, q_markS0_eq⟩
  · cases h
theorem ok_markS : EntryOk Try.prog 30 E_markS := entry_or ok_markS1 ok_markS0
theorem loops_heldS : ∀ b ∈ loopsIn (bodyOf Try.f31), LoopOk Try.prog (tabL []) (OL lp_heldS) Try.f31.ntmps (pbOf [0]) LO_heldS b := by
  refine oneLoop 2 (by kernel_rfl) (by kernel_rfl) (by kernel_rfl) ?_
  intro ls e ls' hl
  replace hl : pickA (LO_heldS 2 ls) = some (e, ls') := hl
  unfold LO_heldS at hl
  split at hl
  · rename_i x e0 n l k i
    obtain ⟨hc, he⟩ := pick1 hl
    cases he
    obtain ⟨hc, k5⟩ := andE hc
    obtain ⟨hc, k4⟩ := andE hc
    obtain ⟨hc, k3⟩ := andE hc
    obtain ⟨hc, k2⟩ := andE hc
    obtain ⟨k0, k1⟩ := andE hc
    obtain ⟨t, q_t, h_t⟩ := isE_inv k0
    injection q_t with qa qb
    subst qa
    subst qb
    obtain rfl := Nat.eq_of_beq_eq_true k1
    have e_t : asSes (.sl _ _) = t := asSes_mk t
    have i_t := isSes_mk h_t
    obtain rfl := Nat.eq_of_beq_eq_true k2
    obtain rfl := eq_of_beq k3
    obtain rfl := eq_of_beq k4
    rw [e_t]
    rw [e_t] at k5
    have k5 := holds_inv k5
    have hb := h_t.1
    have := held_loop t [] 1 (by omega) (by rw [List.length_nil]; omega) k5
    rw [List.nil_append, show 1 + 2 * t.length = 2 * t.length + 1 by omega] at this
    exact this
  · cases hl
theorem loops_heldS0 : ∀ b ∈ loopsIn (bodyOf Try.f31), LoopOk Try.prog (tabL []) (OL lp_heldS) Try.f31.ntmps (pbOf []) LO_heldS0 b := by
  refine oneLoop 2 (by kernel_rfl) (by kernel_rfl) (by kernel_rfl) ?_
  intro ls e ls' hl
  replace hl : pickA (LO_heldS0 2 ls) = some (e, ls') := hl
  unfold LO_heldS0 at hl
  split at hl
  · rename_i k i
    obtain ⟨hc, he⟩ := pick1 hl
    cases he
    obtain ⟨k0, k1⟩ := andE hc
    obtain rfl := eq_of_beq k0
    obtain rfl := eq_of_beq k1
    exact .done _ _ r_heldS0_eq
  · cases hl
theorem ok_heldS1 : EntryOk Try.prog 31 E_heldS1 := entry_of mix (tab := []) trivial (lp := lp_heldS) (LO := LO_heldS) ⟨Try.func31, by kernel_rfl, by kernel_rfl⟩ (by kernel_rfl) fun ivs res bxs h => by
  unfold E_heldS1 at h
  split at h
  · rename_i e n l k
    obtain ⟨hc, he⟩ := pick1 h
    cases he
    obtain ⟨hc, k3⟩ := andE hc
    obtain ⟨hc, k2⟩ := andE hc
    obtain ⟨k0, k1⟩ := andE hc
    obtain ⟨t, q_t, h_t⟩ := isE_inv k0
    injection q_t with qa qb
    subst qa
    subst qb
    obtain rfl := Nat.eq_of_beq_eq_true k1
    have e_t : asSes (.sl _ _) = t := asSes_mk t
    have i_t := isSes_mk h_t
    rw [e_t] at k3
    obtain rfl := eq_of_beq k2
    refine ⟨loops_heldS, (q_heldS_eq t).trans ?_⟩
    rw [e_t, k0, k3, show Nat.beq t.length t.length = true from Nat.beq_refl _]
    rfl
  · cases h
theorem ok_heldS0 : EntryOk Try.prog 31 E_heldS0 := entry_of mix (tab := []) trivial (lp := lp_heldS) (LO := LO_heldS0) ⟨Try.func31, by kernel_rfl, by kernel_rfl⟩ (by kernel_rfl) fun ivs res bxs h => by
  unfold E_heldS0 at h
  split at h
  · rename_i k
    obtain ⟨hc, he⟩ := pick1 h
    cases he
    obtain rfl := eq_of_beq hc
    exact ⟨loops_heldS0, q_heldS0_eq⟩
  · cases h
theorem ok_heldS : EntryOk Try.prog 31 E_heldS := entry_or ok_heldS1 ok_heldS0
theorem ok_bzb1 : EntriesOk Try.prog bzb1 := ⟨ok_eqS, ok_markS, ok_heldS, trivial⟩
theorem ok_eqT : EntryOk Try.prog 12 E_eqT := entry_of mix ok_bzb1 (lp := lp_eqT) (LO := LO0) ⟨Try.func12, by kernel_rfl, by kernel_rfl⟩ (by kernel_rfl) fun ivs res bxs h => by
  unfold E_eqT at h
  split at h
  · rename_i a b c e n l a' b' c' m k
    obtain ⟨hc, he⟩ := pick1 h
    cases he
    obtain ⟨hc, k6⟩ := andE hc
    obtain ⟨hc, k5⟩ := andE hc
    obtain ⟨hc, k4⟩ := andE hc
    obtain ⟨hc, k3⟩ := andE hc
    obtain ⟨hc, k2⟩ := andE hc
    obtain ⟨k0, k1⟩ := andE hc
    obtain ⟨t, q_t, h_t⟩ := isE_inv k0
    injection q_t with qa qb
    subst qa
    subst qb
    obtain rfl := Nat.eq_of_beq_eq_true k1
    have e_t : asSes (.sl _ _) = t := asSes_mk t
    have i_t := isSes_mk h_t
    obtain ⟨u, q_u, h_u⟩ := isE_inv k2
    injection q_u with qa qb
    subst qa
    subst qb
    have e_u : asSes (.sl _ _) = u := asSes_mk u
    rw [e_t, e_u] at k6
    obtain rfl := holds_inv k6
    obtain rfl := eq_of_beq k3
    obtain rfl := eq_of_beq k4
    obtain rfl := eq_of_beq k5
    refine ⟨noLoop (by kernel_rfl), (q_eqT_eq a b c t a b c t).trans ?_⟩
    rw [e_t, k0, eqSes_refl, bne_self_eq_false, bne_self_eq_false, bne_self_eq_false, show Nat.beq t.length t.length = true from Nat.beq_refl _]
    rfl
  · rename_i a b c n l a' b' c' m k
    obtain ⟨hc, he⟩ := pick1 h
    cases he
    obtain ⟨hc, k6⟩ := andE hc
    obtain ⟨hc, k5⟩ := andE hc
    obtain ⟨hc, k4⟩ := andE hc
    obtain ⟨hc, k3⟩ := andE hc
    obtain ⟨hc, k2⟩ := andE hc
    obtain ⟨k0, k1⟩ := andE hc
    obtain rfl := Nat.eq_of_beq_eq_true k3
    obtain rfl := nilB_inv k4
    obtain rfl := Nat.eq_of_beq_eq_true k5
    obtain rfl := nilB_inv k6
    obtain rfl := eq_of_beq k0
    obtain rfl := eq_of_beq k1
    obtain rfl := eq_of_beq k2
    refine ⟨noLoop (by kernel_rfl), (q_eqT0_eq a b c).trans ?_⟩
    rw [bne_self_eq_false, bne_self_eq_false, bne_self_eq_false]
    rfl
  · cases h
theorem ok_markT : EntryOk Try.prog 13 E_markT := entry_of mix ok_bzb1 (lp := lp_markT) (LO := LO0) ⟨Try.func13, by kernel_rfl, by kernel_rfl⟩ (by kernel_rfl) fun ivs res bxs h => by
  unfold E_markT at h
  split at h
  · rename_i a b c e n l k
    obtain ⟨hc, he⟩ := pick1 h
    cases he
    obtain ⟨hc, k2⟩ := andE hc
    obtain ⟨k0, k1⟩ := andE hc
    obtain ⟨t, q_t, h_t⟩ := isE_inv k0
    injection q_t with qa qb
    subst qa
    subst qb
    obtain rfl := Nat.eq_of_beq_eq_true k1
    have e_t : asSes (.sl _ _) = t := asSes_mk t
    have i_t := isSes_mk h_t
    obtain rfl := eq_of_beq k2
    refine ⟨noLoop (by kernel_rfl), (q_markT_eq a b c t).trans ?_⟩
    rw [e_t, k0, show Nat.beq t.length t.length = true from Nat.beq_refl _]
    rfl
  · rename_i a b c k
    obtain ⟨hc, he⟩ := pick1 h
    cases he
    obtain rfl := eq_of_beq hc
    exact ⟨noLoop (by kernel_rfl), q_markT0_eq a b c⟩
  · cases h
theorem ok_heldT : EntryOk Try.prog 14 E_heldT := entry_of mix ok_bzb1 (lp := lp_markT) (LO := LO0) ⟨Try.func14, by kernel_rfl, by kernel_rfl⟩ (by kernel_rfl) fun ivs res bxs h => by
  unfold E_heldT at h
  split at h
  · rename_i a b c e n l k
    obtain ⟨hc, he⟩ := pick1 h
    cases he
    obtain ⟨hc, k3⟩ := andE hc
    obtain ⟨hc, k2⟩ := andE hc
    obtain ⟨k0, k1⟩ := andE hc
    obtain ⟨t, q_t, h_t⟩ := isE_inv k0
    injection q_t with qa qb
    subst qa
    subst qb
    obtain rfl := Nat.eq_of_beq_eq_true k1
    have e_t : asSes (.sl _ _) = t := asSes_mk t
    have i_t := isSes_mk h_t
    rw [e_t] at k3
    obtain rfl := eq_of_beq k2
    refine ⟨noLoop (by kernel_rfl), (q_heldT_eq a b c t).trans ?_⟩
    rw [e_t, k0, k3, show Nat.beq t.length t.length = true from Nat.beq_refl _]
    rfl
  · rename_i a b c k
    obtain ⟨hc, he⟩ := pick1 h
    cases he
    obtain rfl := eq_of_beq hc
    exact ⟨noLoop (by kernel_rfl), q_heldT0_eq a b c⟩
  · cases h
end Go.Proofs.Ytdegegajoccdjaa
