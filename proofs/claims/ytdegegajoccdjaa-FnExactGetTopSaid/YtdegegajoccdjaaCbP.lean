/- Superblocks read by the program, and the law, by the reckoner: proofs. -/
import Derived.Test.YtdegegajoccdjaaCbT
namespace Go.Proofs.Ytdegegajoccdjaa
open Go.RowKit
set_option linter.unusedVariables false
set_option linter.unusedSimpArgs false
set_option maxRecDepth 100000

theorem tkS_size (r : ByteArray) (n : Nat) : (tkS r n).size ≤ n := by
  unfold tkS
  by_cases h : n ≤ r.size
  · rw [if_pos h, ByteArray.size_extract]; omega
  · rw [if_neg h]; exact Nat.zero_le _
theorem tkR_size (r : ByteArray) (n : Nat) : (tkR r n).size ≤ r.size := by
  unfold tkR
  by_cases h : n ≤ r.size
  · rw [if_pos h, ByteArray.size_extract]; omega
  · rw [if_neg h]; exact Nat.le_refl _
theorem IGet_bad (s r : ByteArray) (a b c n : Int) (l : List SeT) : LoopsTo (rdB brC Try.prog cbb0 lp_IGet LO_IGet Try.f11 8 []) [aS s, zT 2, aBx 7 (rdr r true), bxL 8 a b c l true, aI n] (.exit 0, [aS s, zT 2, aBx 7 (rdr r true), bxL 8 a b c l true]) := by
  refine .done _ _ ((r_IGet_eq s r true a b c l n).trans ?_)
  cases decide (n > 0) <;> rfl
theorem app_seat (l : List SeT) (x : SeT) : encSe l ++ [PV.int .i64 x.id, PV.int .i64 x.slot] = encSe (l ++ [x]) := by rw [encSe_app]; rfl
theorem IGet_loop (s : ByteArray) (a b c : Int) : ∀ (m : Nat) (r : ByteArray) (l : List SeT), l.length + m ≤ 300 → r.size ≤ 2000000 →
    LoopsTo (rdB brC Try.prog cbb0 lp_IGet LO_IGet Try.f11 8 []) [aS s, zT 2, aBx 7 (rdr r false), bxL 8 a b c l true, aI m] (.exit 0, [aS s, zT 2, aBx 7 (rdr (rdS m r l).1 (rdS m r l).2.1), bxL 8 a b c (rdS m r l).2.2 true]) := by
  intro m
  induction m with
  | zero =>
    intro r l h1 h2
    refine .done _ _ ((r_IGet_eq s r false a b c l _).trans ?_)
    rw [dF (show ¬ ((0 : Nat) : Int) > 0 by omega)]
    rfl
  | succ m ih =>
    intro r l h1 h2
    have tree := r_IGet_eq s r false a b c l ((m + 1 : Nat) : Int)
    have x1 := tkS_size r 1
    have x2 := tkS_size (tkR r 1) 2
    have x3 := tkR_size r 1
    have x4 := tkR_size (tkR r 1) 2
    have w1 : IntKind.wrap .i64 (((m + 1 : Nat) : Int) - 1) = (m : Int) := by rw [wrapI (by omega) (by omega)]; omega
    have e := app_seat l ⟨numV (tkS r 1), numV (tkS (tkR r 1) 2)⟩
    dsimp only at e
    rw [w1, e] at tree
    simp (disch := omega) only [dT, Bool.and_true, List.length_cons, List.length_nil] at tree
    have e2 : (l ++ [(⟨numV (tkS r 1), numV (tkS (tkR r 1) 2)⟩ : SeT)]).length = l.length + 1 := by rw [List.length_append]; rfl
    unfold rdS
    by_cases hb : tkB (tkR r 1) (tkB r false 1) 2 = true
    · rw [if_pos hb]
      rw [hb] at tree
      have := IGet_bad s (tkR (tkR r 1) 2) a b c m (l ++ [⟨numV (tkS r 1), numV (tkS (tkR r 1) 2)⟩])
      unfold bxL at this
      rw [e2] at this
      unfold bxL
      dsimp only
      rw [e2]
      exact .step _ _ _ tree this
    · rw [if_neg hb]
      rw [Bool.not_eq_true] at hb
      rw [hb] at tree
      have := ih (tkR (tkR r 1) 2) (l ++ [⟨numV (tkS r 1), numV (tkS (tkR r 1) 2)⟩]) (by rw [e2]; omega) (by omega)
      unfold bxL at this
      rw [e2] at this
      exact .step _ _ _ tree this
theorem IGet_first (s r : ByteArray) (a b c : Int) (m : Nat) (h1 : m + 1 ≤ 255) (h2 : r.size ≤ 2000000) :
    LoopsTo (rdB brC Try.prog cbb0 lp_IGet LO_IGet Try.f11 8 []) [aS s, zT 2, aBx 7 (rdr r false), bxN 8 a b c, aI ((m + 1 : Nat) : Int)] (.exit 0, [aS s, zT 2, aBx 7 (rdr (rdS (m + 1) r []).1 (rdS (m + 1) r []).2.1), bxL 8 a b c (rdS (m + 1) r []).2.2 true]) := by
  have tree := r_IGet0_eq s r false a b c ((m + 1 : Nat) : Int)
  have x1 := tkS_size r 1
  have x2 := tkS_size (tkR r 1) 2
  have x3 := tkR_size r 1
  have x4 := tkR_size (tkR r 1) 2
  have w1 : IntKind.wrap .i64 (((m + 1 : Nat) : Int) - 1) = (m : Int) := by rw [wrapI (by omega) (by omega)]; omega
  rw [w1] at tree
  simp (disch := omega) only [dT, Bool.and_true, List.length_cons, List.length_nil] at tree
  unfold rdS
  by_cases hb : tkB (tkR r 1) (tkB r false 1) 2 = true
  · rw [if_pos hb]
    rw [hb] at tree
    have := IGet_bad s (tkR (tkR r 1) 2) a b c m [(⟨numV (tkS r 1), numV (tkS (tkR r 1) 2)⟩ : SeT)]
    exact .step _ _ _ tree this
  · rw [if_neg hb]
    rw [Bool.not_eq_true] at hb
    rw [hb] at tree
    have := IGet_loop s a b c m (tkR (tkR r 1) 2) [(⟨numV (tkS r 1), numV (tkS (tkR r 1) 2)⟩ : SeT)] (by show 1 + m ≤ 300; omega) (by omega)
    exact .step _ _ _ tree this
theorem rdS_sh : ∀ (m : Nat) (r : ByteArray) (l : List SeT), shSes l → l.length + m ≤ 1000 → shSes (rdS m r l).2.2
  | 0, r, l, h, _ => h
  | m + 1, r, l, h, hm => by
    have hx : shSe ⟨numV (tkS r 1), numV (tkS (tkR r 1) 2)⟩ := by
      have h1 := numV_small (tkS r 1) (by have := tkS_size r 1; omega)
      have h2 := numV_small (tkS (tkR r 1) 2) (by have := tkS_size (tkR r 1) 2; omega)
      unfold shSe
      dsimp only
      omega
    have hl : shSes (l ++ [⟨numV (tkS r 1), numV (tkS (tkR r 1) 2)⟩]) := by
      refine ⟨by rw [List.length_append]; simp only [List.length_singleton]; omega, fun x hx' => ?_⟩
      rcases List.mem_append.1 hx' with hx' | hx'
      · exact h.2 x hx'
      · rw [List.mem_singleton.1 hx']; exact hx
    unfold rdS
    by_cases hb : tkB (tkR r 1) (tkB r false 1) 2 = true
    · rw [if_pos hb]; exact hl
    · rw [if_neg hb]; exact rdS_sh m _ _ hl (by rw [List.length_append]; simp only [List.length_singleton]; omega)
theorem put_size (a b c : Int) (l : List SeT) : (putV a b c l).size = 0 ∨ (putV a b c l).size = 1700 := by
  unfold putV
  by_cases hT : topB a b c l = true
  · rw [if_pos hT]
    unfold stV
    split
    · rename_i g
      obtain ⟨g1, g2, g3, g4⟩ := g
      refine .inr ?_
      rw [ByteArray.size_append, ByteArray.size_append, ByteArray.size_append, zer_size]
      omega
    · exact .inl rfl
  · rw [if_neg hT]; exact .inl rfl
theorem put_ne {s : ByteArray} (h8 : 8 ≤ s.size) (h : ¬ s.size = 1700) (a b c : Int) (l : List SeT) : ((putV a b c l).toList == s.toList) = false := by
  refine beq_eq_false_iff_ne.2 fun e => ?_
  rw [ByteArray.toList_eq, ByteArray.toList_eq] at e
  have : (putV a b c l).size = s.size := by rw [← len_toList, ← len_toList, e]
  rcases put_size a b c l with h1 | h1 <;> omega
theorem unV_8 {s : ByteArray} (h : unV s 4 = true) : 8 ≤ s.size := by
  unfold unV at h
  simp only [Bool.and_eq_true, decide_eq_true_eq] at h
  exact h.1.1.2
theorem ext_ext (d : ByteArray) (i j k l : Nat) (h : i + l ≤ j) : (d.extract i j).extract k l = d.extract (i + k) (i + l) := by
  apply ba_ext
  rw [extract_list, extract_list, extract_list, List.take_drop, List.drop_drop, List.take_take, show min (i + l) j = i + l by omega]
theorem tkS_ext (d : ByteArray) (i n : Nat) (hd : d.size = 1692) (h : i + n ≤ 1692) : tkS (d.extract i 1692) n = d.extract i (i + n) := by
  unfold tkS
  rw [if_pos (by rw [ByteArray.size_extract]; omega), ext_ext d i 1692 0 n h]
  rfl
theorem tkR_ext (d : ByteArray) (i n : Nat) (hd : d.size = 1692) (h : i + n ≤ 1692) : tkR (d.extract i 1692) n = d.extract (i + n) 1692 := by
  have hz : (d.extract i 1692).size = 1692 - i := by rw [ByteArray.size_extract]; omega
  unfold tkR
  rw [if_pos (by omega), hz, ext_ext d i 1692 n (1692 - i) (by omega), show i + (1692 - i) = 1692 by omega]
theorem tkB_ext (d : ByteArray) (i n : Nat) (b : Bool) (hd : d.size = 1692) (h : i + n ≤ 1692) : tkB (d.extract i 1692) b n = b := by
  unfold tkB
  rw [if_pos (by rw [ByteArray.size_extract]; omega)]
theorem rdS_ext (d : ByteArray) (hd : d.size = 1692) : ∀ (m i : Nat), 6 + 3 * (i + m) ≤ 1692 → (rdS m (d.extract (6 + 3 * i) 1692) (seatsOf d i)).2 = (false, seatsOf d (i + m))
  | 0, i, _ => rfl
  | m + 1, i, h => by
    unfold rdS
    rw [tkR_ext d (6 + 3 * i) 1 hd (by omega), tkR_ext d (6 + 3 * i + 1) 2 hd (by omega), tkB_ext d (6 + 3 * i) 1 false hd (by omega), tkB_ext d (6 + 3 * i + 1) 2 false hd (by omega), tkS_ext d (6 + 3 * i) 1 hd (by omega), tkS_ext d (6 + 3 * i + 1) 2 hd (by omega), if_neg Bool.false_ne_true]
    have e : seatsOf d i ++ [(⟨numV (d.extract (6 + 3 * i) (6 + 3 * i + 1)), numV (d.extract (6 + 3 * i + 1) (6 + 3 * i + 1 + 2))⟩ : SeT)] = seatsOf d (i + 1) := by
      rw [range_ok]
      unfold seatAt
      rw [show 6 + 3 * i + 1 = 7 + 3 * i by omega, show 7 + 3 * i + 2 = 9 + 3 * i by omega]
    rw [e, show 6 + 3 * i + 1 + 2 = 6 + 3 * (i + 1) by omega, rdS_ext d hd m (i + 1) (by omega), show i + 1 + m = i + (m + 1) by omega]
theorem one_lt (r : ByteArray) : ∃ n : Nat, oneV r = n ∧ n ≤ 255 := by
  refine ⟨numL (tkS r 1).data.toList, rfl, ?_⟩
  have h := numL_lt (tkS r 1).data.toList
  have hz : (tkS r 1).data.toList.length ≤ 1 := by rw [len_toList]; exact tkS_size r 1
  have : numL (tkS r 1).data.toList < 256 := Nat.lt_of_lt_of_le h (Nat.le_trans (Nat.pow_le_pow_right (by decide) hz) (by decide))
  omega
theorem ok_cbb0 (hT : EntryOk Try.prog 27 E_ITop) (hP : EntryOk Try.prog 28 E_IPut) : EntriesOk Try.prog cbb0 := ⟨ok_take, ok_rone, ok_number, ok_Un, hT, hP, trivial⟩
theorem loops_IGet : ∀ b ∈ loopsIn (bodyOf Try.f11), LoopOk Try.prog (tabL cbb0) (OL lp_IGet) Try.f11.ntmps (pbOf []) LO_IGet b := by
  refine oneLoop 8 (by kernel_rfl) (by kernel_rfl) (by kernel_rfl) ?_
  intro ls e ls' hl
  replace hl : pickA (LO_IGet 8 ls) = some (e, ls') := hl
  unfold LO_IGet at hl
  split at hl
  · rename_i s x z1 z2 z3 y r d z a b c n
    rcases pick2 hl with ⟨hc, he⟩ | ⟨hn, hc, he⟩
    · cases he
      simp only [Bool.and_eq_true, Bool.or_eq_true, decide_eq_true_eq, beq_iff_eq] at hc
      obtain ⟨⟨⟨⟨⟨⟨k0, k1⟩, k2⟩, k3⟩, k4⟩, k5⟩, k6⟩ := hc
      have k0 := Nat.eq_of_beq_eq_true k0
      have k1 := Nat.eq_of_beq_eq_true k1
      have k2 := Nat.eq_of_beq_eq_true k2
      subst k0
      subst k1
      subst k2
      subst k3
      subst k4
      subst k5
      refine .done _ _ ((r_IGet0_eq s r d a b c n).trans ?_)
      rcases k6 with k6 | k6
      · rw [k6]
        cases decide (n > 0) <;> rfl
      · rw [dF (show ¬ n > 0 by omega)]
        rfl
    · cases he
      obtain ⟨hc', k8⟩ := andE hc
      obtain ⟨hc6, k7⟩ := andE hc'
      have hd : (d || decide (n ≤ 0)) = false := by
        cases hq : (d || decide (n ≤ 0)) with
        | false => rfl
        | true => rw [hc6, hq] at hn; cases hn
      simp only [Bool.and_eq_true, beq_iff_eq] at hc6
      obtain ⟨⟨⟨⟨⟨k0, k1⟩, k2⟩, k3⟩, k4⟩, k5⟩ := hc6
      have k0 := Nat.eq_of_beq_eq_true k0
      have k1 := Nat.eq_of_beq_eq_true k1
      have k2 := Nat.eq_of_beq_eq_true k2
      have k7 := of_decide_eq_true k7
      have k8 := holds_inv k8
      simp only [Bool.or_eq_false_iff, decide_eq_false_iff_not] at hd
      obtain ⟨hd1, hd2⟩ := hd
      subst k0
      subst k1
      subst k2
      subst k3
      subst k4
      subst k5
      subst hd1
      obtain ⟨m, rfl⟩ : ∃ m : Nat, n = ((m + 1 : Nat) : Int) := ⟨(n - 1).toNat, by omega⟩
      exact IGet_first s r a b c m (by omega) k8
  · cases hl
theorem main_z (s : ByteArray) (hs : s.size ≤ 2000000) (hu : unV s 4 = true) (hz : s.size = 1700) (h0 : cntV (midG s) = 0) : q_IGet brC s = if okG s = true then (if cntV (midG s) = 0 then some (.tup [.agg [.pv (.int .i64 (seqG s)), .pv (.int .i64 (rootG s)), .pv (.int .i64 (countG s)), .pv .nils], cB true], []) else some (.tup [.agg [.pv (.int .i64 (seqG s)), .pv (.int .i64 (rootG s)), .pv (.int .i64 (countG s)), .lst 2 50 (seatsG s).length (encSe (seatsG s)) true], cB true], [])) else some (.tup [.agg [.pv (.int .i64 0), .pv (.int .i64 0), .pv (.int .i64 0), .pv .nils], cB false], []) := by
  refine (q_IGet_eq s).trans ?_
  unfold okG
  rw [hu]
  have h8 := unV_8 hu
  have hm : (midG s).size = s.size - 8 := by unfold midG; rw [ByteArray.size_extract]; omega
  have x0 := ext_small s 0 4 (by omega)
  rw [show s.extract 4 (s.size - 4) = midG s from rfl]
  have y1 := tkS_size (midG s) 1
  have y2 := tkR_size (midG s) 1
  have y3 := tkS_size (tkR (midG s) 1) 4
  have y4 := tkR_size (tkR (midG s) 1) 4
  have y5 := tkR_size (tkR (tkR (midG s) 1) 4) 1
  rw [dT hs, dT x0, dT (show (midG s).size ≤ 2000000 by omega), dT (show (tkS (midG s) 1).size ≤ 7 by omega), dT (show (tkR (midG s) 1).size ≤ 2000000 by omega), dT (show (tkS (tkR (midG s) 1) 4).size ≤ 7 by omega), dT (show (tkR (tkR (midG s) 1) 4).size ≤ 2000000 by omega), holds_mk (show (tkR (tkR (tkR (midG s) 1) 4) 1).size ≤ 2000000 by omega)]
  have hd : (midG s).size = 1692 := by omega
  have e0 : midG s = (midG s).extract 0 1692 := by
    apply ba_ext
    rw [extract_list, List.drop_zero, List.take_of_length_le (by rw [len_toList]; omega)]
  have t1 : tkS (midG s) 1 = (midG s).extract 0 1 := by have := tkS_ext (midG s) 0 1 hd (by omega); rwa [← e0] at this
  have t2 : tkR (midG s) 1 = (midG s).extract 1 1692 := by have := tkR_ext (midG s) 0 1 hd (by omega); rwa [← e0] at this
  have t3 : tkB (midG s) false 1 = false := by have := tkB_ext (midG s) 0 1 false hd (by omega); rwa [← e0] at this
  rw [t1, t2, t3, tkS_ext _ 1 4 hd (by omega), tkR_ext _ 1 4 hd (by omega), tkB_ext _ 1 4 false hd (by omega), tkR_ext _ (1 + 4) 1 hd (by omega), tkB_ext _ (1 + 4) 1 false hd (by omega)]
  have t4 : oneV ((midG s).extract (1 + 4) 1692) = ((cntV (midG s) : Nat) : Int) := by
    unfold oneV
    rw [tkS_ext _ (1 + 4) 1 hd (by omega)]
    rfl
  have hc := cntV_lt (midG s)
  rw [t4, Int.toNat_natCast, show 1 + 4 + 1 = 6 + 3 * 0 from rfl, show ([] : List SeT) = seatsOf (midG s) 0 from rfl]
  have t5 := rdS_ext (midG s) hd (cntV (midG s)) 0 (by omega)
  rw [Nat.zero_add] at t5
  rw [t5]
  rw [show numV (s.extract 0 4) = seqG s from rfl, show numV ((midG s).extract 0 1) = rootG s from rfl, show numV ((midG s).extract 1 (1 + 4)) = countG s from rfl, show seatsOf (midG s) (cntV (midG s)) = seatsG s from rfl, show seatsOf (midG s) 0 = [] from rfl]
  have i1 : isSes (.sl (seatsG s).length (encSe (seatsG s))) = true := isSes_mk (seatsOf_sh _ _ (by omega))
  have a1 : asSes (.sl (seatsG s).length (encSe (seatsG s))) = seatsG s := asSes_mk (seatsG s)
  rw [i1, a1, dT hz]
  have hse : seatsG s = [] := by unfold seatsG; rw [h0]; rfl
  rw [h0, if_pos rfl, hse, dT (show ((0 : Nat) : Int) ≤ 0 by omega)]
  cases hT : topB (seqG s) (rootG s) (countG s) [] with
  | true =>
    generalize ((putV (seqG s) (rootG s) (countG s) []).toList == s.toList) = Q
    cases Q <;> rfl
  | false =>
    have hq : ((putV (seqG s) (rootG s) (countG s) []).toList == s.toList) = false := by
      unfold putV
      rw [hT, if_neg Bool.false_ne_true]
      refine beq_eq_false_iff_ne.2 fun e => ?_
      rw [ByteArray.toList_eq, ByteArray.toList_eq] at e
      have := len_toList s
      rw [← e] at this
      have h00 : ([] : List UInt8).length = s.size := this
      rw [List.length_nil] at h00
      omega
    rw [hq]
    rfl
theorem main_nz (s : ByteArray) (hs : s.size ≤ 2000000) (hu : unV s 4 = true) (hz : s.size = 1700) (h0 : ¬ cntV (midG s) = 0) : q_IGet brC s = if okG s = true then (if cntV (midG s) = 0 then some (.tup [.agg [.pv (.int .i64 (seqG s)), .pv (.int .i64 (rootG s)), .pv (.int .i64 (countG s)), .pv .nils], cB true], []) else some (.tup [.agg [.pv (.int .i64 (seqG s)), .pv (.int .i64 (rootG s)), .pv (.int .i64 (countG s)), .lst 2 50 (seatsG s).length (encSe (seatsG s)) true], cB true], [])) else some (.tup [.agg [.pv (.int .i64 0), .pv (.int .i64 0), .pv (.int .i64 0), .pv .nils], cB false], []) := by
  refine (q_IGet_eq s).trans ?_
  unfold okG
  rw [hu]
  have h8 := unV_8 hu
  have hm : (midG s).size = s.size - 8 := by unfold midG; rw [ByteArray.size_extract]; omega
  have x0 := ext_small s 0 4 (by omega)
  rw [show s.extract 4 (s.size - 4) = midG s from rfl]
  have y1 := tkS_size (midG s) 1
  have y2 := tkR_size (midG s) 1
  have y3 := tkS_size (tkR (midG s) 1) 4
  have y4 := tkR_size (tkR (midG s) 1) 4
  have y5 := tkR_size (tkR (tkR (midG s) 1) 4) 1
  rw [dT hs, dT x0, dT (show (midG s).size ≤ 2000000 by omega), dT (show (tkS (midG s) 1).size ≤ 7 by omega), dT (show (tkR (midG s) 1).size ≤ 2000000 by omega), dT (show (tkS (tkR (midG s) 1) 4).size ≤ 7 by omega), dT (show (tkR (tkR (midG s) 1) 4).size ≤ 2000000 by omega), holds_mk (show (tkR (tkR (tkR (midG s) 1) 4) 1).size ≤ 2000000 by omega)]
  have hd : (midG s).size = 1692 := by omega
  have e0 : midG s = (midG s).extract 0 1692 := by
    apply ba_ext
    rw [extract_list, List.drop_zero, List.take_of_length_le (by rw [len_toList]; omega)]
  have t1 : tkS (midG s) 1 = (midG s).extract 0 1 := by have := tkS_ext (midG s) 0 1 hd (by omega); rwa [← e0] at this
  have t2 : tkR (midG s) 1 = (midG s).extract 1 1692 := by have := tkR_ext (midG s) 0 1 hd (by omega); rwa [← e0] at this
  have t3 : tkB (midG s) false 1 = false := by have := tkB_ext (midG s) 0 1 false hd (by omega); rwa [← e0] at this
  rw [t1, t2, t3, tkS_ext _ 1 4 hd (by omega), tkR_ext _ 1 4 hd (by omega), tkB_ext _ 1 4 false hd (by omega), tkR_ext _ (1 + 4) 1 hd (by omega), tkB_ext _ (1 + 4) 1 false hd (by omega)]
  have t4 : oneV ((midG s).extract (1 + 4) 1692) = ((cntV (midG s) : Nat) : Int) := by
    unfold oneV
    rw [tkS_ext _ (1 + 4) 1 hd (by omega)]
    rfl
  have hc := cntV_lt (midG s)
  rw [t4, Int.toNat_natCast, show 1 + 4 + 1 = 6 + 3 * 0 from rfl, show ([] : List SeT) = seatsOf (midG s) 0 from rfl]
  have t5 := rdS_ext (midG s) hd (cntV (midG s)) 0 (by omega)
  rw [Nat.zero_add] at t5
  rw [t5]
  dsimp only
  rw [show numV (s.extract 0 4) = seqG s from rfl, show numV ((midG s).extract 0 1) = rootG s from rfl, show numV ((midG s).extract 1 (1 + 4)) = countG s from rfl, show seatsOf (midG s) (cntV (midG s)) = seatsG s from rfl, show seatsOf (midG s) 0 = [] from rfl]
  have i1 : isSes (.sl (seatsG s).length (encSe (seatsG s))) = true := isSes_mk (seatsOf_sh _ _ (by omega))
  have a1 : asSes (.sl (seatsG s).length (encSe (seatsG s))) = seatsG s := asSes_mk (seatsG s)
  rw [i1, a1, dT hz]
  rw [if_neg h0, dF (show ¬ ((cntV (midG s) : Nat) : Int) ≤ 0 by omega), dT (show ((cntV (midG s) : Nat) : Int) ≤ 255 by omega)]
  cases hT : topB (seqG s) (rootG s) (countG s) (seatsG s) with
  | true =>
      generalize ((putV (seqG s) (rootG s) (countG s) (seatsG s)).toList == s.toList) = Q
      cases Q <;> rfl
  | false =>
    have hq : ((putV (seqG s) (rootG s) (countG s) (seatsG s)).toList == s.toList) = false := by
      unfold putV
      rw [hT, if_neg Bool.false_ne_true]
      refine beq_eq_false_iff_ne.2 fun e => ?_
      rw [ByteArray.toList_eq, ByteArray.toList_eq] at e
      have := len_toList s
      rw [← e] at this
      have h00 : ([] : List UInt8).length = s.size := this
      rw [List.length_nil] at h00
      omega
    rw [hq]
    rfl
theorem main_ne (s : ByteArray) (hs : s.size ≤ 2000000) (hu : unV s 4 = true) (hz : ¬ s.size = 1700) : q_IGet brC s = if okG s = true then (if cntV (midG s) = 0 then some (.tup [.agg [.pv (.int .i64 (seqG s)), .pv (.int .i64 (rootG s)), .pv (.int .i64 (countG s)), .pv .nils], cB true], []) else some (.tup [.agg [.pv (.int .i64 (seqG s)), .pv (.int .i64 (rootG s)), .pv (.int .i64 (countG s)), .lst 2 50 (seatsG s).length (encSe (seatsG s)) true], cB true], [])) else some (.tup [.agg [.pv (.int .i64 0), .pv (.int .i64 0), .pv (.int .i64 0), .pv .nils], cB false], []) := by
  refine (q_IGet_eq s).trans ?_
  unfold okG
  rw [hu]
  have h8 := unV_8 hu
  have hm : (midG s).size = s.size - 8 := by unfold midG; rw [ByteArray.size_extract]; omega
  have x0 := ext_small s 0 4 (by omega)
  rw [show s.extract 4 (s.size - 4) = midG s from rfl]
  have y1 := tkS_size (midG s) 1
  have y2 := tkR_size (midG s) 1
  have y3 := tkS_size (tkR (midG s) 1) 4
  have y4 := tkR_size (tkR (midG s) 1) 4
  have y5 := tkR_size (tkR (tkR (midG s) 1) 4) 1
  rw [dT hs, dT x0, dT (show (midG s).size ≤ 2000000 by omega), dT (show (tkS (midG s) 1).size ≤ 7 by omega), dT (show (tkR (midG s) 1).size ≤ 2000000 by omega), dT (show (tkS (tkR (midG s) 1) 4).size ≤ 7 by omega), dT (show (tkR (tkR (midG s) 1) 4).size ≤ 2000000 by omega), holds_mk (show (tkR (tkR (tkR (midG s) 1) 4) 1).size ≤ 2000000 by omega)]
  rw [dF hz]
  have hne := put_ne h8 hz
  obtain ⟨n, hn, hn2⟩ := one_lt (tkR (tkR (midG s) 1) 4)
  have hsh := rdS_sh n (tkR (tkR (tkR (midG s) 1) 4) 1) [] shSes_nil (by rw [List.length_nil]; omega)
  rw [hn, Int.toNat_natCast]
  generalize rdS n (tkR (tkR (tkR (midG s) 1) 4) 1) [] = R at hsh ⊢
  have i1 : isSes (.sl R.2.2.length (encSe R.2.2)) = true := isSes_mk hsh
  have a1 : asSes (.sl R.2.2.length (encSe R.2.2)) = R.2.2 := asSes_mk R.2.2
  rw [i1, a1, hne, hne, dT (show (n : Int) ≤ 255 by omega)]
  generalize tkB (tkR (tkR (midG s) 1) 4) (tkB (tkR (midG s) 1) (tkB (midG s) false 1) 4) 1 = B
  generalize decide ((n : Int) ≤ 0) = N
  generalize topB _ _ _ [] = T1
  generalize topB _ _ _ R.2.2 = T2
  generalize R.2.1 = B2
  cases B <;> cases N <;> cases T1 <;> cases T2 <;> cases B2 <;> rfl
theorem main_IGet (s : ByteArray) (hs : s.size ≤ 2000000) : q_IGet brC s = if okG s = true then (if cntV (midG s) = 0 then some (.tup [.agg [.pv (.int .i64 (seqG s)), .pv (.int .i64 (rootG s)), .pv (.int .i64 (countG s)), .pv .nils], cB true], []) else some (.tup [.agg [.pv (.int .i64 (seqG s)), .pv (.int .i64 (rootG s)), .pv (.int .i64 (countG s)), .lst 2 50 (seatsG s).length (encSe (seatsG s)) true], cB true], [])) else some (.tup [.agg [.pv (.int .i64 0), .pv (.int .i64 0), .pv (.int .i64 0), .pv .nils], cB false], []) := by
  cases hu : unV s 4 with
  | false =>
    refine (q_IGet_eq s).trans ?_
    unfold okG
    rw [hu, dT hs]
    rfl
  | true =>
    by_cases hz : s.size = 1700
    · by_cases h0 : cntV (midG s) = 0
      · exact main_z s hs hu hz h0
      · exact main_nz s hs hu hz h0
    · exact main_ne s hs hu hz
theorem ok_IGet (hT : EntryOk Try.prog 27 E_ITop) (hP : EntryOk Try.prog 28 E_IPut) : EntryOk Try.prog 11 E_IGet := entry_of mix (ok_cbb0 hT hP) (lp := lp_IGet) (LO := LO_IGet) ⟨Try.func11, by kernel_rfl, by kernel_rfl⟩ (by kernel_rfl) fun ivs res bxs h => by
  unfold E_IGet at h
  split at h
  · rename_i s
    rcases pick3n h with ⟨hc, he⟩ | ⟨hn, hc, he⟩ | ⟨hn, hn2, hc, he⟩
    · cases he
      obtain ⟨hc, k2⟩ := andE hc
      obtain ⟨k0, k1⟩ := andE hc
      exact ⟨loops_IGet, (main_IGet s (of_decide_eq_true k0)).trans ((if_pos k1).trans (if_pos (Nat.eq_of_beq_eq_true k2)))⟩
    · cases he
      obtain ⟨k0, k1⟩ := andE hc
      have h0 : ¬ cntV (midG s) = 0 := fun h => by rw [k0, k1, h] at hn; cases hn
      exact ⟨loops_IGet, (main_IGet s (of_decide_eq_true k0)).trans ((if_pos k1).trans (if_neg h0))⟩
    · cases he
      have k1 : ¬ okG s = true := fun h => by rw [hc, h] at hn2; cases hn2
      exact ⟨loops_IGet, (main_IGet s (of_decide_eq_true hc)).trans (if_neg k1)⟩
  · cases h
end Go.Proofs.Ytdegegajoccdjaa
