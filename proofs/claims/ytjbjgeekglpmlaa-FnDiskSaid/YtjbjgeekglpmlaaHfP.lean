/- Disks: which are right, by the reckoner: proofs. -/
import Derived.Test.YtjbjgeekglpmlaaHfT
namespace Go.Proofs.Ytjbjgeekglpmlaa
open Go.RowKit
set_option linter.unusedVariables false
set_option linter.unusedSimpArgs false
set_option maxRecDepth 100000

theorem pI_inj (xs ys : List Int) (h : pI xs = pI ys) : xs = ys := by
  injection h with _ h
  have : ∀ {a b : List Int}, a.map (PV.int .i64) = b.map (PV.int .i64) → a = b := by
    intro a
    induction a with
    | nil => intro b h; cases b with
      | nil => rfl
      | cons y b => cases h
    | cons x a ih => intro b h; cases b with
      | nil => cases h
      | cons y b =>
        rw [List.map_cons, List.map_cons] at h
        injection h with h1 h2
        injection h1 with _ h1
        rw [h1, ih h2]
  exact this h
theorem isI_mk {xs : List Int} (h : shI xs) : isE pI shI (PV.sl xs.length (xs.map (PV.int .i64))) = true := isE_mk (enc := pI) h
theorem asI_mk (xs : List Int) : asE pI (PV.sl xs.length (xs.map (PV.int .i64))) = xs := asE_mk pI_inj xs
theorem isI_inv {p : PV} (h : isI p = true) : ∃ xs, p = pI xs ∧ shI xs := isE_inv h
theorem drop_ints (xs : List Int) (i : Nat) (h : i < xs.length) : (xs.map (PV.int .i64)).drop (i * 1) = .int .i64 xs[i] :: (xs.drop (i + 1)).map (PV.int .i64) := by
  rw [Nat.mul_one, ← List.map_drop, List.drop_eq_getElem_cons h]
  rfl
theorem fiW_in {α : Type} {p : α → Bool} {x : α} {xs : List α} (h : p x = true) : fiW p (x :: xs) = 0 := by unfold fiW; rw [if_pos h]
theorem fiW_out {α : Type} {p : α → Bool} {x : α} {xs : List α} (h : p x = false) : fiW p (x :: xs) = fiW p xs + 1 := by rw [fiW, if_neg (by rw [h]; exact Bool.false_ne_true)]
theorem fiW_any {α : Type} (p : α → Bool) (xs : List α) : decide (fiW p xs < xs.length) = xs.any p := by
  induction xs with
  | nil => rfl
  | cons x xs ih =>
    rw [List.any_cons]
    cases hp : p x with
    | true => rw [fiW_in hp]; simp
    | false =>
      rw [fiW_out hp, List.length_cons, Bool.false_or, ← ih]
      exact decide_eq_decide.2 (by omega)
theorem ifFi (k n : Nat) : decide ((if k < n then (k : Int) else -1) ≥ 0) = decide (k < n) := by
  by_cases h : k < n
  · rw [if_pos h, dT h, dT (by omega)]
  · rw [if_neg h, dF h, dF (by omega)]
theorem any_bad {α : Type} (p : α → Bool) (xs : List α) : (xs.any fun x => !p x) = !xs.all p := by
  induction xs with
  | nil => rfl
  | cons x xs ih => rw [List.any_cons, List.all_cons, ih, Bool.not_and]
theorem ok_hfb0 : EntriesOk Try.prog hfb0 := ⟨ok_In, trivial⟩
theorem dkOf (d : DskT) (hd : shDk d) : isDk (PV.agg [PV.int .i64 d.wide, pL d.secs, pPs d.puts]) = true ∧ asDk (PV.agg [PV.int .i64 d.wide, pL d.secs, pPs d.puts]) = d := ⟨isDk_mk hd, asDk_mk d⟩
theorem dkIn {w : Int} {p q : PV} (h : isDk (.agg [.int .i64 w, p, q]) = true) : ∃ d, shDk d ∧ w = d.wide ∧ p = pL d.secs ∧ q = pPs d.puts := by
  obtain ⟨d, hd0, hd⟩ := isDk_inv h
  injection hd0 with hd1
  injection hd1 with hd2 hd1
  injection hd1 with hd3 hd1
  injection hd1 with hd4 _
  injection hd2 with _ hd2
  exact ⟨d, hd, hd2, hd3, hd4⟩
theorem sz_ne (a w : Int) : (a != w) = !decide (a = w) := by
  by_cases h : a = w
  · rw [h, dT rfl]; simp
  · rw [dF h]; simp [h]
theorem SDk5_loop (d : DskT) (hd : shDk d) (m : Int) : ∀ (c i : Nat), c + i = d.secs.length → LoopsTo (rdB brC Try.prog hfb0 lp_SDk LO_SDk Try.f13 5 []) [dkB d, aI m, aI i]
    (if ((d.secs.drop i).all fun s => decide ((s.size : Int) = d.wide)) = true then (.exit 0, [dkB d, aX, aI m]) else (.ret, [dkB d, aB false, aI m])) := by
  have hl := hd.2.1.1
  intro c
  induction c with
  | zero =>
    intro i hc
    obtain rfl : i = d.secs.length := by omega
    rw [List.drop_length]
    refine .done _ _ ((r_SDk5_eq d m d.secs.length).trans ?_)
    rw [dF (by omega)]
    rfl
  | succ c ih =>
    intro i hc
    have hi : i < d.secs.length := by omega
    have tree := r_SDk5_eq d m i
    simp (disch := omega) only [show decide ((i : Int) < (d.secs.length : Int)) = true from dT (by omega), show decide (0 ≤ (i : Int)) = true from dT (by omega), Int.toNat_natCast, drop_strs d.secs i hi, List.length_cons, List.headD_cons, PV.isStr, PV.asStr, blt0, wrap1, sz_ne, Bool.and_true, Bool.true_and] at tree
    rw [List.drop_eq_getElem_cons hi, List.all_cons]
    cases hin : decide ((d.secs[i].size : Int) = d.wide) with
    | true =>
      rw [hin] at tree
      rw [Bool.true_and]
      exact .step _ _ _ tree (ih (i + 1) (by omega))
    | false =>
      rw [hin] at tree
      rw [Bool.false_and, if_neg Bool.false_ne_true]
      exact .done _ _ tree
theorem SDk10_loop (d : DskT) (hd : shDk d) : ∀ (c i : Nat), c + i = d.puts.length → LoopsTo (rdB brC Try.prog hfb0 lp_SDk LO_SDk Try.f13 10 []) [dkB d, aI d.secs.length, aI i]
    (if ((d.puts.drop i).all (okPut d.secs.length d.wide)) = true then (.exit 2, [aX]) else (.ret, [aB false])) := by
  have hl := hd.2.2.1
  have hl2 := hd.2.1.1
  intro c
  induction c with
  | zero =>
    intro i hc
    obtain rfl : i = d.puts.length := by omega
    rw [List.drop_length]
    refine .done _ _ ((r_SDk10_eq d d.secs.length d.puts.length).trans ?_)
    rw [dF (by omega)]
    rfl
  | succ c ih =>
    intro i hc
    have hi : i < d.puts.length := by omega
    have tree := r_SDk10_eq d d.secs.length i
    have w1 : IntKind.wrap .i64 ((d.secs.length : Int) - 1) = (d.secs.length : Int) - 1 := wrapI (by omega) (by omega)
    simp (disch := omega) only [show decide ((i : Int) < (d.puts.length : Int)) = true from dT (by omega), show decide (0 ≤ (i : Int)) = true from dT (by omega), Int.toNat_natCast, drop_encP d.puts i hi, List.drop_zero, List.drop_succ_cons, List.length_cons, List.headD_cons, PV.isStr, PV.asStr, PV.isInt, PV.asInt, blt0, wrap1, w1, sz_ne, Bool.and_true, Bool.true_and] at tree
    rw [List.drop_eq_getElem_cons hi, List.all_cons]
    unfold okPut at ih ⊢
    cases h1 : (decide (0 ≤ d.puts[i].at_) && decide (d.puts[i].at_ ≤ (d.secs.length : Int) - 1)) with
    | false =>
      rw [h1] at tree
      rw [Bool.false_and, Bool.false_and, if_neg Bool.false_ne_true]
      exact .done _ _ tree
    | true =>
      rw [h1] at tree
      rw [Bool.true_and]
      cases h2 : decide ((d.puts[i].byt.size : Int) = d.wide) with
      | true =>
        rw [h2] at tree
        rw [Bool.true_and]
        exact .step _ _ _ tree (ih (i + 1) (by omega))
      | false =>
        rw [h2] at tree
        rw [Bool.false_and, if_neg Bool.false_ne_true]
        exact .done _ _ tree
theorem dskB_eq (d : DskT) : dskB d = (decide (1 ≤ d.wide) && decide (d.wide ≤ 2000) && decide (1 ≤ d.secs.length) && decide (d.secs.length ≤ 400) && decide (d.puts.length ≤ 400) && secOk d && putOk d) := rfl
theorem ok_SDk : EntryOk Try.prog 13 E_DkOk := entry_of mix ok_hfb0 (lp := lp_SDk) (LO := LO_SDk) ⟨Try.func13, by kernel_rfl, by kernel_rfl⟩ (by kernel_rfl) fun ivs res bxs h => by
  unfold E_DkOk at h
  split at h
  · rename_i p
    obtain ⟨hc, he⟩ := pick1 h
    cases he
    obtain ⟨d, rfl, hd⟩ := isDk_inv hc
    have e4 : asDk (pDk d) = d := asDk_mk d
    rw [e4]
    obtain ⟨i1, i2⟩ := dkOf d hd
    refine ⟨manyLoops [5, 10] (by kernel_rfl) (fun k hk => ?_) (fun k hk => ?_), (q_SDk_eq d).trans ?_⟩
    · rcases List.mem_cons.1 hk with rfl | hk
      · kernel_rfl
      · rw [List.mem_singleton.1 hk]; kernel_rfl
    · rcases List.mem_cons.1 hk with rfl | hk
      · refine ⟨noLoop (by kernel_rfl), fun ls e ls' hl => ?_⟩
        unfold LO_SDk at hl
        rw [Nat.beq_refl, cond_true] at hl
        split at hl
        · rename_i x w p q m i
          cases hg : (isDk (.agg [.int .i64 w, p, q]) && Nat.beq x 4096 && (i == 0)) with
          | false => rw [hg] at hl; simp only [pickA, Bool.false_and, cond_false] at hl; cases hl
          | true =>
            rw [hg, Bool.true_and] at hl
            simp only [Bool.and_eq_true, beq_iff_eq] at hg
            obtain ⟨⟨g1, g2⟩, g3⟩ := hg
            obtain ⟨u, hu, rfl, rfl, rfl⟩ := dkIn g1
            rw [(dkOf u hu).2] at hl
            have := SDk5_loop u hu m u.secs.length 0 (by omega)
            rw [List.drop_zero] at this
            rw [g3, Nat.eq_of_beq_eq_true g2]
            cases hB : secOk u with
            | true =>
              have hB' := hB
              unfold secOk at hB'
              rw [hB'] at this
              rw [hB] at hl
              cases hl
              exact this
            | false =>
              have hB' := hB
              unfold secOk at hB'
              rw [hB'] at this
              rw [hB] at hl
              cases hl
              exact this
        · cases hl
      · rw [List.mem_singleton.1 hk]
        refine ⟨noLoop (by kernel_rfl), fun ls e ls' hl => ?_⟩
        unfold LO_SDk at hl
        rw [show Nat.beq 10 5 = false from rfl, cond_false] at hl
        split at hl
        · rename_i x w p q m i
          cases hg : (isDk (.agg [.int .i64 w, p, q]) && Nat.beq x 4096 && (i == 0) && (m == ((asDk (.agg [.int .i64 w, p, q])).secs.length : Int))) with
          | false => rw [hg] at hl; simp only [pickA, Bool.false_and, cond_false] at hl; cases hl
          | true =>
            rw [hg, Bool.true_and] at hl
            simp only [Bool.and_eq_true, beq_iff_eq] at hg
            obtain ⟨⟨⟨g1, g2⟩, g3⟩, g4⟩ := hg
            obtain ⟨u, hu, rfl, rfl, rfl⟩ := dkIn g1
            rw [(dkOf u hu).2] at hl g4
            have := SDk10_loop u hu u.puts.length 0 (by omega)
            rw [List.drop_zero] at this
            rw [g3, g4, Nat.eq_of_beq_eq_true g2]
            cases hB : putOk u with
            | true =>
              have hB' := hB
              unfold putOk at hB'
              rw [hB'] at this
              rw [hB] at hl
              cases hl
              exact this
            | false =>
              have hB' := hB
              unfold putOk at hB'
              rw [hB'] at this
              rw [hB] at hl
              cases hl
              exact this
        · cases hl
    · rw [i1, i2, dskB_eq]
      have l1 : decide ((d.secs.length : Int) < 1) = !decide (1 ≤ d.secs.length) := by
        by_cases h : 1 ≤ d.secs.length
        · rw [dT h, dF (by omega)]; rfl
        · rw [dF h, dT (by omega)]; rfl
      have l2 : decide ((d.secs.length : Int) > 400) = !decide (d.secs.length ≤ 400) := by
        by_cases h : d.secs.length ≤ 400
        · rw [dT h, dF (by omega)]; rfl
        · rw [dF h, dT (by omega)]; rfl
      have l3 : decide ((d.puts.length : Int) > 400) = !decide (d.puts.length ≤ 400) := by
        by_cases h : d.puts.length ≤ 400
        · rw [dT h, dF (by omega)]; rfl
        · rw [dF h, dT (by omega)]; rfl
      have l4 : ((d.secs.length : Int) == (d.secs.length : Int)) = true := beq_self_eq_true _
      rw [l1, l2, l3, l4]
      cases decide (1 ≤ d.wide) <;> cases decide (d.wide ≤ 2000) <;> cases decide (1 ≤ d.secs.length) <;> cases decide (d.secs.length ≤ 400) <;> cases decide (d.puts.length ≤ 400) <;> cases secOk d <;> cases putOk d <;> rfl
  · cases h
/-! The program. -/
theorem ok_within2 : EntryOk Try.prog 40 E_In := entry_of mix (tab := []) trivial (lp := []) (LO := LO0) ⟨Try.func40, by kernel_rfl, by kernel_rfl⟩ (by kernel_rfl) fun ivs res bxs h => by
  unfold E_In at h
  split at h
  · rename_i n a b
    cases h
    refine ⟨noLoop (by kernel_rfl), (q_within2_eq n a b).trans ?_⟩
    cases decide (a ≤ n) <;> rfl
  · cases h
theorem ok_cntS : EntryOk Try.prog 66 E_cnt := entry_of mix (tab := []) trivial (lp := []) (LO := LO0) ⟨Try.func66, by kernel_rfl, by kernel_rfl⟩ (by kernel_rfl) fun ivs res bxs h => by
  unfold E_cnt at h
  split at h
  · rename_i n l
    cases h
    exact ⟨noLoop (by kernel_rfl), q_count2_eq n l⟩
  · cases h
theorem ok_cntP : EntryOk Try.prog 39 E_cnt := entry_of mix (tab := []) trivial (lp := []) (LO := LO0) ⟨Try.func39, by kernel_rfl, by kernel_rfl⟩ (by kernel_rfl) fun ivs res bxs h => by
  unfold E_cnt at h
  split at h
  · rename_i n l
    cases h
    exact ⟨noLoop (by kernel_rfl), q_countP_eq n l⟩
  · cases h
theorem ok_hfb1 : EntriesOk Try.prog hfb1 := ⟨ok_within2, ok_cntS, ok_cntP, trivial⟩
theorem ok_has : EntryOk Try.prog 43 E_has := entry_of mix ok_hfb1 (lp := []) (LO := LO0) ⟨Try.func43, by kernel_rfl, by kernel_rfl⟩ (by kernel_rfl) fun ivs res bxs h => by
  unfold E_has at h
  split at h
  · rename_i p a
    obtain ⟨hc, he⟩ := pick1 h
    cases he
    obtain ⟨d, rfl, hd⟩ := isDk_inv hc
    have e4 : asDk (pDk d) = d := asDk_mk d
    have hl := hd.2.1.1
    rw [e4]
    refine ⟨noLoop (by kernel_rfl), (q_has_eq d a).trans ?_⟩
    rw [wrapI (x := (d.secs.length : Int) - 1) (by omega) (by omega)]
  · cases h
theorem ok_hfb2 : EntriesOk Try.prog hfb2 := ⟨ok_has, ok_hfb1⟩
theorem ok_clo1 : EntryOk Try.prog 68 E_clo1 := entry_of mix ok_hfb2 (lp := []) (LO := LO0) ⟨Try.func68, by kernel_rfl, by kernel_rfl⟩ (by kernel_rfl) fun ivs res bxs h => by
  unfold E_clo1 at h
  split at h
  · rename_i s w p q
    obtain ⟨hc, he⟩ := pick1 h
    cases he
    rw [Bool.and_eq_true] at hc
    obtain ⟨d, hd, rfl, rfl, rfl⟩ := dkIn hc.1
    refine ⟨noLoop (by kernel_rfl), (q_clo1_eq s d).trans ?_⟩
    rw [sz_ne]
    rfl
  · cases h
theorem ok_clo2 : EntryOk Try.prog 70 E_clo2 := entry_of mix ok_hfb2 (lp := []) (LO := LO0) ⟨Try.func70, by kernel_rfl, by kernel_rfl⟩ (by kernel_rfl) fun ivs res bxs h => by
  unfold E_clo2 at h
  split at h
  · rename_i x w p q
    obtain ⟨hc, he⟩ := pick1 h
    cases he
    rw [Bool.and_eq_true] at hc
    obtain ⟨d, hd, rfl, rfl, rfl⟩ := dkIn hc.1
    obtain ⟨y, rfl, hy⟩ := isP_inv hc.2
    have e1 : asP (pP y) = y := asP_mk y
    have e2 : PV.agg [PV.int IntKind.i64 (PV.asInt (List.headD [PV.int IntKind.i64 d.wide, pL d.secs, pPs d.puts] PV.nilp)), PV.sl (PV.slN (List.headD [pL d.secs, pPs d.puts] PV.nilp)) (PV.slL (List.headD [pL d.secs, pPs d.puts] PV.nilp)), PV.sl (PV.slN (List.headD [pPs d.puts] PV.nilp)) (PV.slL (List.headD [pPs d.puts] PV.nilp))] = PV.agg [PV.int .i64 d.wide, pL d.secs, pPs d.puts] := rfl
    refine ⟨noLoop (by kernel_rfl), (q_clo2_eq y d).trans ?_⟩
    rw [e1, e2, (dkOf d hd).1, (dkOf d hd).2, sz_ne]
    unfold okPut
    show brC true (brC (!(decide (0 ≤ y.at_) && decide (y.at_ ≤ (d.secs.length : Int) - 1))) _ _) _ = _
    cases (decide (0 ≤ y.at_) && decide (y.at_ ≤ (d.secs.length : Int) - 1)) <;> rfl
  · cases h
theorem ok_cloI : EntryOk Try.prog 74 E_cloI := entry_of mix ok_hfb2 (lp := []) (LO := LO0) ⟨Try.func74, by kernel_rfl, by kernel_rfl⟩ (by kernel_rfl) fun ivs res bxs h => by
  unfold E_cloI at h
  split at h
  · rename_i n lo hi
    cases h
    exact ⟨noLoop (by kernel_rfl), q_cloI_eq n lo hi⟩
  · cases h
theorem ok_hfb3 : EntriesOk Try.prog hfb3 := ⟨ok_clo1, ok_clo2, ok_cloI, ok_hfb2⟩
/-! Index and contains (printed by gen/idxd.py). -/
theorem IdxS_loop (d : DskT) (hd : shDk d) (xs : List ByteArray) (hx : shL xs) : ∀ (m i : Nat), m + i = xs.length → LoopsTo (rdB brC Try.prog hfb3 lp_Idx LO_IdxS Try.f91 2 []) [aP (pL xs), aP (.clo 68 [rDk d]), aI xs.length, aI i]
    (if fiW (badSz d.wide) (xs.drop i) + i < xs.length then (.ret, [aI ((fiW (badSz d.wide) (xs.drop i) + i : Nat) : Int)]) else (.exit 0, [aX])) := by
  have hl := hx.1
  intro m
  induction m with
  | zero =>
    intro i hm
    obtain rfl : i = xs.length := by omega
    rw [List.drop_length, show fiW (badSz d.wide) [] = 0 from rfl, if_neg (by omega)]
    refine .done _ _ ((r_IdxS_eq d xs xs.length).trans ?_)
    rw [dF (by omega)]
    rfl
  | succ m ih =>
    intro i hm
    have hi : i < xs.length := by omega
    have ih' := ih (i + 1) (by omega)
    have tree := r_IdxS_eq d xs i
    have i1 : isDk (PV.agg [PV.int .i64 d.wide, pL d.secs, pPs d.puts]) = true := isDk_mk hd
    simp (disch := omega) only [show decide ((i : Int) < (xs.length : Int)) = true from dT (by omega), show decide (0 ≤ (i : Int)) = true from dT (by omega), Int.toNat_natCast, drop_strs xs i hi, List.length_cons, List.headD_cons, PV.isStr, PV.asStr, blt0, wrap1, i1, dT (hx.2 xs[i] (List.getElem_mem hi)), Bool.and_true, Bool.true_and] at tree
    rw [List.drop_eq_getElem_cons hi]
    cases hin : (badSz d.wide) xs[i] with
    | true =>
      have hin' := hin
      unfold badSz at hin'
      rw [hin'] at tree
      rw [fiW_in hin, Nat.zero_add, if_pos hi]
      exact .done _ _ tree
    | false =>
      have hin' := hin
      unfold badSz at hin'
      rw [hin'] at tree
      rw [fiW_out hin]
      have e : fiW (badSz d.wide) (xs.drop (i + 1)) + (i + 1) = fiW (badSz d.wide) (xs.drop (i + 1)) + 1 + i := by omega
      rw [e] at ih'
      exact .step _ _ _ tree ih'
theorem ok_IdxS : EntryOk Try.prog 91 E_IdxS := entry_of mix ok_hfb3 (lp := lp_Idx) (LO := LO_IdxS) ⟨Try.func91, by kernel_rfl, by kernel_rfl⟩ (by kernel_rfl) fun ivs res bxs h => by
  unfold E_IdxS at h
  split at h
  · rename_i p f w a b
    obtain ⟨hc, he⟩ := pick1 h
    cases he
    rw [Bool.and_eq_true, Bool.and_eq_true] at hc
    obtain ⟨⟨hca, hcf⟩, hcb⟩ := hc
    obtain ⟨xs, rfl, hx⟩ := isL_inv hca
    obtain rfl := Nat.eq_of_beq_eq_true hcf
    have e4 : asL (pL xs) = xs := asL_mk xs
    have e5 : isL (pL xs) = true := isL_mk hx
    obtain ⟨d, hd0, hd⟩ := isDk_inv hcb
    injection hd0 with hd1
    injection hd1 with hd2 hd1
    injection hd1 with hd3 hd1
    injection hd1 with hd4 _
    injection hd2 with _ hd2
    subst hd2 hd3 hd4
    have i2 : asDk (PV.agg [PV.int .i64 d.wide, pL d.secs, pPs d.puts]) = d := asDk_mk d
    have i1 : isDk (PV.agg [PV.int .i64 d.wide, pL d.secs, pPs d.puts]) = true := isDk_mk hd
    rw [e4]
    refine ⟨oneLoop 2 (by kernel_rfl) (by kernel_rfl) (by kernel_rfl) ?_, (q_IdxS_eq d xs).trans ?_⟩
    · intro ls e ls' hl
      unfold LO_IdxS at hl
      split at hl
      · rename_i p f w a b n i
        cases hg : (isL p && Nat.beq f 68 && isDk (.agg [.int .i64 w, a, b]) && (n == ((asL p).length : Int)) && (i == 0)) with
        | false => rw [hg] at hl; simp only [pickA, Bool.false_and, cond_false] at hl; cases hl
        | true =>
          rw [hg, Bool.true_and] at hl
          simp only [Bool.and_eq_true, beq_iff_eq] at hg
          obtain ⟨⟨⟨⟨g1, g3⟩, g2b⟩, g4⟩, g5⟩ := hg
          obtain ⟨ys, rfl, hy⟩ := isL_inv g1
          have e6 : asL (pL ys) = ys := asL_mk ys
          obtain ⟨d, hd0, hd⟩ := isDk_inv g2b
          injection hd0 with hd1
          injection hd1 with hd2 hd1
          injection hd1 with hd3 hd1
          injection hd1 with hd4 _
          injection hd2 with _ hd2
          subst hd2 hd3 hd4
          have i2 : asDk (PV.agg [PV.int .i64 d.wide, pL d.secs, pPs d.puts]) = d := asDk_mk d
          rw [e6] at hl g4
          rw [Nat.eq_of_beq_eq_true g3, g4, g5]
          have := IdxS_loop d hd ys hy ys.length 0 (by omega)
          rw [List.drop_zero, Nat.add_zero] at this
          skip
          by_cases hlt : fiW (badSz d.wide) ys < ys.length
          · rw [dT hlt] at hl
            rw [if_pos hlt] at this
            cases hl
            exact this
          · rw [dF hlt] at hl
            rw [if_neg hlt] at this
            cases hl
            exact this
      · cases hl
    · simp only [e4, e5, i1, beq_self_eq_true, Bool.and_true, Bool.true_and, Nat.beq_refl]
      by_cases hlt : fiW (badSz d.wide) xs < xs.length
      · rw [dT hlt, if_pos hlt]
        rfl
      · rw [dF hlt, if_neg hlt]
        rfl
  · cases h
theorem ok_ConS : EntryOk Try.prog 67 E_ConS := entry_of mix (tab := hfcS) ⟨ok_IdxS, trivial⟩ (lp := []) (LO := LO0) ⟨Try.func67, by kernel_rfl, by kernel_rfl⟩ (by kernel_rfl) fun ivs res bxs h => by
  unfold E_ConS at h
  split at h
  · rename_i p f w a b
    obtain ⟨hc, he⟩ := pick1 h
    cases he
    rw [Bool.and_eq_true, Bool.and_eq_true] at hc
    obtain ⟨⟨hca, hcf⟩, hcb⟩ := hc
    obtain ⟨xs, rfl, hx⟩ := isL_inv hca
    obtain rfl := Nat.eq_of_beq_eq_true hcf
    have e4 : asL (pL xs) = xs := asL_mk xs
    have e5 : isL (pL xs) = true := isL_mk hx
    have e6 : asL (PV.sl xs.length (xs.map PV.str)) = xs := asL_mk xs
    have e7 : isL (PV.sl xs.length (xs.map PV.str)) = true := isL_mk hx
    obtain ⟨d, hd0, hd⟩ := isDk_inv hcb
    injection hd0 with hd1
    injection hd1 with hd2 hd1
    injection hd1 with hd3 hd1
    injection hd1 with hd4 _
    injection hd2 with _ hd2
    subst hd2 hd3 hd4
    have i2 : asDk (PV.agg [PV.int .i64 d.wide, pL d.secs, pPs d.puts]) = d := asDk_mk d
    have i1 : isDk (PV.agg [PV.int .i64 d.wide, pL d.secs, pPs d.puts]) = true := isDk_mk hd
    refine ⟨noLoop (by kernel_rfl), (q_ConS_eq d xs).trans ?_⟩
    simp only [e4, e5, e6, e7, i1, ifFi, fiW_any, beq_self_eq_true, Bool.and_true, Bool.true_and, Nat.beq_refl]
    rfl
  · cases h
theorem IdxP_loop (d : DskT) (hd : shDk d) (xs : List PutT) (hx : shPs xs) : ∀ (m i : Nat), m + i = xs.length → LoopsTo (rdB brC Try.prog hfb3 lp_Idx LO_IdxP Try.f92 2 []) [aP (pPs xs), aP (.clo 70 [rDk d]), aI xs.length, aI i]
    (if fiW (badPt d.secs.length d.wide) (xs.drop i) + i < xs.length then (.ret, [aI ((fiW (badPt d.secs.length d.wide) (xs.drop i) + i : Nat) : Int)]) else (.exit 0, [aX])) := by
  have hl := hx.1
  intro m
  induction m with
  | zero =>
    intro i hm
    obtain rfl : i = xs.length := by omega
    rw [List.drop_length, show fiW (badPt d.secs.length d.wide) [] = 0 from rfl, if_neg (by omega)]
    refine .done _ _ ((r_IdxP_eq d xs xs.length).trans ?_)
    rw [dF (by omega)]
    rfl
  | succ m ih =>
    intro i hm
    have hi : i < xs.length := by omega
    have ih' := ih (i + 1) (by omega)
    have tree := r_IdxP_eq d xs i
    have i1 : isDk (PV.agg [PV.int .i64 d.wide, pL d.secs, pPs d.puts]) = true := isDk_mk hd
    have i2 : asDk (PV.agg [PV.int .i64 d.wide, pL d.secs, pPs d.puts]) = d := asDk_mk d
    have i3 : isP (PV.agg [PV.int .i64 xs[i].at_, PV.str xs[i].byt]) = true := isP_mk (hx.2 xs[i] (List.getElem_mem hi))
    have i4 : asP (PV.agg [PV.int .i64 xs[i].at_, PV.str xs[i].byt]) = xs[i] := asP_mk _
    simp (disch := omega) only [show decide ((i : Int) < (xs.length : Int)) = true from dT (by omega), show decide (0 ≤ (i : Int)) = true from dT (by omega), Int.toNat_natCast, drop_encP xs i hi, List.length_cons, List.headD_cons, List.tail_cons, PV.isStr, PV.asStr, PV.isInt, PV.asInt, ble2, wrap1, i1, i2, i3, i4, Bool.and_true, Bool.true_and] at tree
    rw [List.drop_eq_getElem_cons hi]
    cases hin : (badPt d.secs.length d.wide) xs[i] with
    | true =>
      have hin' := hin
      unfold badPt at hin'
      rw [hin'] at tree
      rw [fiW_in hin, Nat.zero_add, if_pos hi]
      exact .done _ _ tree
    | false =>
      have hin' := hin
      unfold badPt at hin'
      rw [hin'] at tree
      rw [fiW_out hin]
      have e : fiW (badPt d.secs.length d.wide) (xs.drop (i + 1)) + (i + 1) = fiW (badPt d.secs.length d.wide) (xs.drop (i + 1)) + 1 + i := by omega
      rw [e] at ih'
      exact .step _ _ _ tree ih'
theorem ok_IdxP : EntryOk Try.prog 92 E_IdxP := entry_of mix ok_hfb3 (lp := lp_Idx) (LO := LO_IdxP) ⟨Try.func92, by kernel_rfl, by kernel_rfl⟩ (by kernel_rfl) fun ivs res bxs h => by
  unfold E_IdxP at h
  split at h
  · rename_i p f w a b
    obtain ⟨hc, he⟩ := pick1 h
    cases he
    rw [Bool.and_eq_true, Bool.and_eq_true] at hc
    obtain ⟨⟨hca, hcf⟩, hcb⟩ := hc
    obtain ⟨xs, rfl, hx⟩ := isPs_inv hca
    obtain rfl := Nat.eq_of_beq_eq_true hcf
    have e4 : asPs (pPs xs) = xs := asPs_mk xs
    have e5 : isPs (pPs xs) = true := isPs_mk hx
    obtain ⟨d, hd0, hd⟩ := isDk_inv hcb
    injection hd0 with hd1
    injection hd1 with hd2 hd1
    injection hd1 with hd3 hd1
    injection hd1 with hd4 _
    injection hd2 with _ hd2
    subst hd2 hd3 hd4
    have i2 : asDk (PV.agg [PV.int .i64 d.wide, pL d.secs, pPs d.puts]) = d := asDk_mk d
    have i1 : isDk (PV.agg [PV.int .i64 d.wide, pL d.secs, pPs d.puts]) = true := isDk_mk hd
    rw [e4]
    refine ⟨oneLoop 2 (by kernel_rfl) (by kernel_rfl) (by kernel_rfl) ?_, (q_IdxP_eq d xs).trans ?_⟩
    · intro ls e ls' hl
      unfold LO_IdxP at hl
      split at hl
      · rename_i p f w a b n i
        cases hg : (isPs p && Nat.beq f 70 && isDk (.agg [.int .i64 w, a, b]) && (n == ((asPs p).length : Int)) && (i == 0)) with
        | false => rw [hg] at hl; simp only [pickA, Bool.false_and, cond_false] at hl; cases hl
        | true =>
          rw [hg, Bool.true_and] at hl
          simp only [Bool.and_eq_true, beq_iff_eq] at hg
          obtain ⟨⟨⟨⟨g1, g3⟩, g2b⟩, g4⟩, g5⟩ := hg
          obtain ⟨ys, rfl, hy⟩ := isPs_inv g1
          have e6 : asPs (pPs ys) = ys := asPs_mk ys
          obtain ⟨d, hd0, hd⟩ := isDk_inv g2b
          injection hd0 with hd1
          injection hd1 with hd2 hd1
          injection hd1 with hd3 hd1
          injection hd1 with hd4 _
          injection hd2 with _ hd2
          subst hd2 hd3 hd4
          have i2 : asDk (PV.agg [PV.int .i64 d.wide, pL d.secs, pPs d.puts]) = d := asDk_mk d
          rw [e6] at hl g4
          rw [Nat.eq_of_beq_eq_true g3, g4, g5]
          have := IdxP_loop d hd ys hy ys.length 0 (by omega)
          rw [List.drop_zero, Nat.add_zero] at this
          rw [i2] at hl
          by_cases hlt : fiW (badPt d.secs.length d.wide) ys < ys.length
          · rw [dT hlt] at hl
            rw [if_pos hlt] at this
            cases hl
            exact this
          · rw [dF hlt] at hl
            rw [if_neg hlt] at this
            cases hl
            exact this
      · cases hl
    · simp only [e4, e5, i1, i2, beq_self_eq_true, Bool.and_true, Bool.true_and, Nat.beq_refl]
      by_cases hlt : fiW (badPt d.secs.length d.wide) xs < xs.length
      · rw [dT hlt, if_pos hlt]
        rfl
      · rw [dF hlt, if_neg hlt]
        rfl
  · cases h
theorem ok_ConP : EntryOk Try.prog 69 E_ConP := entry_of mix (tab := hfcP) ⟨ok_IdxP, trivial⟩ (lp := []) (LO := LO0) ⟨Try.func69, by kernel_rfl, by kernel_rfl⟩ (by kernel_rfl) fun ivs res bxs h => by
  unfold E_ConP at h
  split at h
  · rename_i p f w a b
    obtain ⟨hc, he⟩ := pick1 h
    cases he
    rw [Bool.and_eq_true, Bool.and_eq_true] at hc
    obtain ⟨⟨hca, hcf⟩, hcb⟩ := hc
    obtain ⟨xs, rfl, hx⟩ := isPs_inv hca
    obtain rfl := Nat.eq_of_beq_eq_true hcf
    have e4 : asPs (pPs xs) = xs := asPs_mk xs
    have e5 : isPs (pPs xs) = true := isPs_mk hx
    have e6 : asPs (PV.sl xs.length (encP xs)) = xs := asPs_mk xs
    have e7 : isPs (PV.sl xs.length (encP xs)) = true := isPs_mk hx
    obtain ⟨d, hd0, hd⟩ := isDk_inv hcb
    injection hd0 with hd1
    injection hd1 with hd2 hd1
    injection hd1 with hd3 hd1
    injection hd1 with hd4 _
    injection hd2 with _ hd2
    subst hd2 hd3 hd4
    have i2 : asDk (PV.agg [PV.int .i64 d.wide, pL d.secs, pPs d.puts]) = d := asDk_mk d
    have i1 : isDk (PV.agg [PV.int .i64 d.wide, pL d.secs, pPs d.puts]) = true := isDk_mk hd
    refine ⟨noLoop (by kernel_rfl), (q_ConP_eq d xs).trans ?_⟩
    simp only [e4, e5, e6, e7, i1, i2, ifFi, fiW_any, beq_self_eq_true, Bool.and_true, Bool.true_and, Nat.beq_refl]
    rfl
  · cases h
theorem IdxI_loop (lo hh : Int) (xs : List Int) (hx : shI xs) : ∀ (m i : Nat), m + i = xs.length → LoopsTo (rdB brC Try.prog hfb3 lp_Idx LO_IdxI Try.f93 2 []) [aP (pI xs), aP (.clo 74 [.ref [.int .i64 lo], .ref [.int .i64 hh]]), aI xs.length, aI i]
    (if fiW (badIn lo hh) (xs.drop i) + i < xs.length then (.ret, [aI ((fiW (badIn lo hh) (xs.drop i) + i : Nat) : Int)]) else (.exit 0, [aX])) := by
  have hl := hx.1
  intro m
  induction m with
  | zero =>
    intro i hm
    obtain rfl : i = xs.length := by omega
    rw [List.drop_length, show fiW (badIn lo hh) [] = 0 from rfl, if_neg (by omega)]
    refine .done _ _ ((r_IdxI_eq lo hh xs xs.length).trans ?_)
    rw [dF (by omega)]
    rfl
  | succ m ih =>
    intro i hm
    have hi : i < xs.length := by omega
    have ih' := ih (i + 1) (by omega)
    have tree := r_IdxI_eq lo hh xs i
    simp (disch := omega) only [show decide ((i : Int) < (xs.length : Int)) = true from dT (by omega), show decide (0 ≤ (i : Int)) = true from dT (by omega), Int.toNat_natCast, drop_ints xs i hi, List.length_cons, List.headD_cons, PV.isInt, PV.asInt, blt0, wrap1, decide_true, Bool.and_true, Bool.true_and] at tree
    rw [List.drop_eq_getElem_cons hi]
    cases hin : (badIn lo hh) xs[i] with
    | true =>
      have hin' := hin
      rw [hin'] at tree
      rw [fiW_in hin, Nat.zero_add, if_pos hi]
      exact .done _ _ tree
    | false =>
      have hin' := hin
      rw [hin'] at tree
      rw [fiW_out hin]
      have e : fiW (badIn lo hh) (xs.drop (i + 1)) + (i + 1) = fiW (badIn lo hh) (xs.drop (i + 1)) + 1 + i := by omega
      rw [e] at ih'
      exact .step _ _ _ tree ih'
theorem ok_IdxI : EntryOk Try.prog 93 E_IdxI := entry_of mix ok_hfb3 (lp := lp_Idx) (LO := LO_IdxI) ⟨Try.func93, by kernel_rfl, by kernel_rfl⟩ (by kernel_rfl) fun ivs res bxs h => by
  unfold E_IdxI at h
  split at h
  · rename_i p f lo hh
    obtain ⟨hc, he⟩ := pick1 h
    cases he
    rw [Bool.and_eq_true, Bool.and_eq_true] at hc
    obtain ⟨⟨hca, hcf⟩, hcb⟩ := hc
    obtain ⟨xs, rfl, hx⟩ := isI_inv hca
    obtain rfl := Nat.eq_of_beq_eq_true hcf
    have e4 : asI (pI xs) = xs := asI_mk xs
    have e5 : isI (pI xs) = true := isI_mk hx
    rw [e4]
    refine ⟨oneLoop 2 (by kernel_rfl) (by kernel_rfl) (by kernel_rfl) ?_, (q_IdxI_eq lo hh xs).trans ?_⟩
    · intro ls e ls' hl
      unfold LO_IdxI at hl
      split at hl
      · rename_i p f lo hh n i
        cases hg : (isI p && Nat.beq f 74 && true && (n == ((asI p).length : Int)) && (i == 0)) with
        | false => rw [hg] at hl; simp only [pickA, Bool.false_and, cond_false] at hl; cases hl
        | true =>
          rw [hg, Bool.true_and] at hl
          simp only [Bool.and_eq_true, beq_iff_eq] at hg
          obtain ⟨⟨⟨⟨g1, g3⟩, g2b⟩, g4⟩, g5⟩ := hg
          obtain ⟨ys, rfl, hy⟩ := isI_inv g1
          have e6 : asI (pI ys) = ys := asI_mk ys
          rw [e6] at hl g4
          rw [Nat.eq_of_beq_eq_true g3, g4, g5]
          have := IdxI_loop lo hh ys hy ys.length 0 (by omega)
          rw [List.drop_zero, Nat.add_zero] at this
          skip
          by_cases hlt : fiW (badIn lo hh) ys < ys.length
          · rw [dT hlt] at hl
            rw [if_pos hlt] at this
            cases hl
            exact this
          · rw [dF hlt] at hl
            rw [if_neg hlt] at this
            cases hl
            exact this
      · cases hl
    · simp only [e4, e5, beq_self_eq_true, Bool.and_true, Bool.true_and, Nat.beq_refl]
      by_cases hlt : fiW (badIn lo hh) xs < xs.length
      · rw [dT hlt, if_pos hlt]
        rfl
      · rw [dF hlt, if_neg hlt]
        rfl
  · cases h
theorem ok_ConI : EntryOk Try.prog 73 E_ConI := entry_of mix (tab := hfcI) ⟨ok_IdxI, trivial⟩ (lp := []) (LO := LO0) ⟨Try.func73, by kernel_rfl, by kernel_rfl⟩ (by kernel_rfl) fun ivs res bxs h => by
  unfold E_ConI at h
  split at h
  · rename_i p f lo hh
    obtain ⟨hc, he⟩ := pick1 h
    cases he
    rw [Bool.and_eq_true, Bool.and_eq_true] at hc
    obtain ⟨⟨hca, hcf⟩, hcb⟩ := hc
    obtain ⟨xs, rfl, hx⟩ := isI_inv hca
    obtain rfl := Nat.eq_of_beq_eq_true hcf
    have e4 : asI (pI xs) = xs := asI_mk xs
    have e5 : isI (pI xs) = true := isI_mk hx
    have e6 : asI (PV.sl xs.length (xs.map (PV.int .i64))) = xs := asI_mk xs
    have e7 : isI (PV.sl xs.length (xs.map (PV.int .i64))) = true := isI_mk hx
    refine ⟨noLoop (by kernel_rfl), (q_ConI_eq lo hh xs).trans ?_⟩
    simp only [e4, e5, e6, e7, ifFi, fiW_any, beq_self_eq_true, Bool.and_true, Bool.true_and, Nat.beq_refl]
    rfl
  · cases h
/-! Behind. -/
theorem ok_hfb4 : EntriesOk Try.prog hfb4 := ⟨ok_ConS, ok_ConP, ok_ConI, ok_hfb2⟩
theorem ok_IDk : EntryOk Try.prog 34 E_DkOk := entry_of mix ok_hfb4 (lp := []) (LO := LO0) ⟨Try.func34, by kernel_rfl, by kernel_rfl⟩ (by kernel_rfl) fun ivs res bxs h => by
  unfold E_DkOk at h
  split at h
  · rename_i p
    obtain ⟨hc, he⟩ := pick1 h
    cases he
    obtain ⟨d, rfl, hd⟩ := isDk_inv hc
    have e4 : asDk (pDk d) = d := asDk_mk d
    rw [e4]
    obtain ⟨i1, i2⟩ := dkOf d hd
    have e1 : isL (PV.sl d.secs.length (d.secs.map .str)) = true := isL_mk hd.2.1
    have e2 : asL (PV.sl d.secs.length (d.secs.map .str)) = d.secs := asL_mk _
    have e3 : isPs (PV.sl d.puts.length (encP d.puts)) = true := isPs_mk hd.2.2
    have e5 : asPs (PV.sl d.puts.length (encP d.puts)) = d.puts := asPs_mk _
    have a1 : d.secs.any (badSz d.wide) = !secOk d := any_bad (fun s : ByteArray => decide ((s.size : Int) = d.wide)) d.secs
    have a2 : d.puts.any (badPt d.secs.length d.wide) = !putOk d := any_bad (okPut d.secs.length d.wide) d.puts
    have l1 : decide ((1 : Int) ≤ (d.secs.length : Int)) = decide (1 ≤ d.secs.length) := decide_eq_decide.2 (by omega)
    have l2 : decide ((d.secs.length : Int) ≤ 400) = decide (d.secs.length ≤ 400) := decide_eq_decide.2 (by omega)
    have l3 : decide ((d.puts.length : Int) > 400) = !decide (d.puts.length ≤ 400) := by
      by_cases h : d.puts.length ≤ 400
      · rw [dT h, dF (by omega)]; rfl
      · rw [dF h, dT (by omega)]; rfl
    refine ⟨noLoop (by kernel_rfl), (q_IDk_eq d).trans ?_⟩
    rw [i1, i2, e1, e2, e3, e5, a1, a2, l1, l2, l3, dskB_eq]
    cases decide (1 ≤ d.wide) <;> cases decide (d.wide ≤ 2000) <;> cases decide (1 ≤ d.secs.length) <;> cases decide (d.secs.length ≤ 400) <;> cases decide (d.puts.length ≤ 400) <;> cases secOk d <;> cases putOk d <;> rfl
  · cases h
theorem ok_allW : EntryOk Try.prog 38 E_allW := entry_of mix ok_hfb4 (lp := []) (LO := LO0) ⟨Try.func38, by kernel_rfl, by kernel_rfl⟩ (by kernel_rfl) fun ivs res bxs h => by
  unfold E_allW at h
  split at h
  · rename_i p lo hi
    obtain ⟨hc, he⟩ := pick1 h
    cases he
    obtain ⟨xs, rfl, hx⟩ := isI_inv hc
    have e4 : asI (pI xs) = xs := asI_mk xs
    have e5 : isI (PV.sl xs.length (xs.map (PV.int .i64))) = true := isI_mk hx
    have e6 : asI (PV.sl xs.length (xs.map (PV.int .i64))) = xs := asI_mk xs
    rw [e4]
    refine ⟨noLoop (by kernel_rfl), (q_allW_eq xs lo hi).trans ?_⟩
    rw [e5, e6]
    rfl
  · cases h
theorem ris_loop (xs : List Int) (hx : shI xs) : ∀ (c i : Nat), c = xs.length - i → 1 ≤ i → LoopsTo (rdB brC Try.prog [] lp_ris LO_ris Try.f37 2 []) [aP (pI xs), aI i]
    (if risB (xs.drop (i - 1)) = true then (.exit 0, [aX]) else (.ret, [aB false])) := by
  have hl := hx.1
  intro c
  induction c with
  | zero =>
    intro i hc hi
    have h0 : risB (xs.drop (i - 1)) = true := by
      have hlen : (xs.drop (i - 1)).length ≤ 1 := by rw [List.length_drop]; omega
      match h : xs.drop (i - 1) with
      | [] => rfl
      | [_] => rfl
      | _ :: _ :: _ => rw [h] at hlen; simp at hlen
    rw [h0]
    refine .done _ _ ((r_ris_eq xs i).trans ?_)
    rw [dF (by omega)]
    rfl
  | succ c ih =>
    intro i hc hi
    have hlt : i < xs.length := by omega
    have hlt' : i - 1 < xs.length := by omega
    have tree := r_ris_eq xs i
    have w1 : IntKind.wrap .i64 ((i : Int) - 1) = ((i - 1 : Nat) : Int) := by rw [wrapI (by omega) (by omega)]; omega
    rw [w1] at tree
    simp (disch := omega) only [Int.toNat_natCast, drop_ints xs i hlt, drop_ints xs (i - 1) hlt', List.length_cons, List.headD_cons, PV.isInt, PV.asInt, blt0, wrap1, dT, Bool.and_true, Bool.true_and] at tree
    have ih' := ih (i + 1) (by omega) (by omega)
    rw [show i + 1 - 1 = i by omega] at ih'
    have hd : xs.drop (i - 1) = xs[i - 1] :: xs.drop i := by
      rw [List.drop_eq_getElem_cons hlt', show i - 1 + 1 = i by omega]
    have hd2 : xs.drop i = xs[i] :: xs.drop (i + 1) := List.drop_eq_getElem_cons hlt
    have hr : risB (xs.drop (i - 1)) = (decide (xs[i - 1] < xs[i]) && risB (xs.drop i)) := by
      rw [hd, hd2]
      rfl
    rw [hr]
    by_cases hab : xs[i - 1] < xs[i]
    · rw [dF (show ¬ xs[i - 1] ≥ xs[i] by omega)] at tree
      rw [dT hab, Bool.true_and]
      exact .step _ _ _ tree ih'
    · rw [dT (show xs[i - 1] ≥ xs[i] by omega)] at tree
      rw [dF hab, Bool.false_and, if_neg Bool.false_ne_true]
      exact .done _ _ tree
theorem ok_ris : EntryOk Try.prog 37 E_ris := entry_of mix (tab := []) trivial (lp := lp_ris) (LO := LO_ris) ⟨Try.func37, by kernel_rfl, by kernel_rfl⟩ (by kernel_rfl) fun ivs res bxs h => by
  unfold E_ris at h
  split at h
  · rename_i p
    obtain ⟨hc, he⟩ := pick1 h
    cases he
    obtain ⟨xs, rfl, hx⟩ := isI_inv hc
    have e4 : asI (pI xs) = xs := asI_mk xs
    have e5 : isI (pI xs) = true := isI_mk hx
    rw [e4]
    refine ⟨oneLoop 2 (by kernel_rfl) (by kernel_rfl) (by kernel_rfl) ?_, (q_ris_eq xs).trans ?_⟩
    · intro ls e ls' hl
      unfold LO_ris at hl
      split at hl
      · rename_i p i
        cases hg : (isI p && (i == 1)) with
        | false => rw [hg] at hl; simp only [pickA, Bool.false_and, cond_false] at hl; cases hl
        | true =>
          rw [hg, Bool.true_and] at hl
          simp only [Bool.and_eq_true, beq_iff_eq] at hg
          obtain ⟨ys, rfl, hy⟩ := isI_inv hg.1
          have e6 : asI (pI ys) = ys := asI_mk ys
          rw [e6] at hl
          rw [hg.2]
          have := ris_loop ys hy (ys.length - 1) 1 rfl (Nat.le_refl _)
          rw [show 1 - 1 = 0 from rfl, List.drop_zero] at this
          cases hB : risB ys with
          | true => rw [hB] at hl this; cases hl; exact this
          | false => rw [hB] at hl this; cases hl; exact this
      · cases hl
    · rw [e4, e5]
      cases risB xs <;> rfl
  · cases h
end Go.Proofs.Ytjbjgeekglpmlaa
