/- Disks: DiskRead, the law: proofs. -/
import Derived.Test.YtjbjgeekglpmlaaHjT
namespace Go.Proofs.Ytjbjgeekglpmlaa
open Go.RowKit
set_option linter.unusedVariables false
set_option linter.unusedSimpArgs false
set_option maxRecDepth 100000

theorem ok_hjb0 : EntriesOk Try.prog hjb0 := ⟨ok_read, ok_hhb0⟩
theorem ok_DiskRead : EntryOk Try.prog 17 E_DiskRead := entry_of mix ok_hjb0 (lp := []) (LO := LO0) ⟨Try.func17, by kernel_rfl, by kernel_rfl⟩ (by kernel_rfl) fun ivs res bxs h => by
  unfold E_DiskRead at h
  split at h
  · rename_i p i
    obtain ⟨hc, he⟩ := pick1 h
    cases he
    simp only [Bool.and_eq_true, decide_eq_true_eq] at hc
    obtain ⟨⟨⟨h1, h2⟩, h3⟩, h4⟩ := hc
    obtain ⟨d, rfl, hd⟩ := isDk_inv h1
    have e1 : asDk (pDk d) = d := asDk_mk d
    rw [e1] at h2 h4 ⊢
    obtain ⟨I, rfl⟩ := Int.eq_ofNat_of_zero_le h3
    have f0 : isDk (PV.agg [PV.int .i64 d.wide, PV.sl d.secs.length (d.secs.map .str), PV.sl d.puts.length (encP d.puts)]) = true := isDk_mk hd
    have f00 : asDk (PV.agg [PV.int .i64 d.wide, PV.sl d.secs.length (d.secs.map .str), PV.sl d.puts.length (encP d.puts)]) = d := asDk_mk d
    refine ⟨noLoop (by kernel_rfl), (q_DiskRead_eq d I).trans ?_⟩
    simp only [f0, f00, h2, Int.toNat_natCast, show decide (0 ≤ (I : Int)) = true from dT h3, show decide ((I : Int) ≤ (d.secs.length : Int) - 1) = true from dT (by omega), show decide ((I : Int) < (d.secs.length : Int)) = true from dT h4, lastW_read d.puts d.secs I (by omega)]
    rfl
  · cases h
theorem ok_long2 : EntryOk Try.prog 11 E_long2 := entry_of mix (tab := []) trivial (lp := []) (LO := LO0) ⟨Try.func11, by kernel_rfl, by kernel_rfl⟩ (by kernel_rfl) fun ivs res bxs h => by
  unfold E_long2 at h
  split at h
  · rename_i n l m k
    obtain ⟨hc, he⟩ := pick1 h
    cases he
    refine ⟨noLoop (by kernel_rfl), (q_long2_eq n m l k).trans ?_⟩
    cases decide ((n : Int) > 1048576) <;> rfl
  · cases h
theorem ok_Loss1 : EntryOk Try.prog 15 E_Loss1 := ⟨ok_Loss.1, fun ivs res bxs h => by
  unfold E_Loss1 at h
  split at h
  · rename_i p q t
    obtain ⟨hc, he⟩ := pick1 h
    cases he
    refine ok_Loss.2 _ _ _ ?_
    unfold E_Loss lossY lossC
    dsimp only
    rw [hc]
    cases dskB (asDk p) <;> cases lossOk (asDk p) (asI q) t <;> rfl
  · cases h⟩
theorem ok_Rot1 : EntryOk Try.prog 19 E_Rot1 := ⟨ok_Rot.1, fun ivs res bxs h => by
  unfold E_Rot1 at h
  split at h
  · rename_i p a q b
    obtain ⟨hc, he⟩ := pick1 h
    cases he
    refine ok_Rot.2 _ _ _ ?_
    unfold E_Rot rotY rotC
    dsimp only
    rw [hc]
    cases dskB (asDk p) <;> cases rotOk (asDk p) a q b <;> rfl
  · cases h⟩
theorem ok_Flush1 : EntryOk Try.prog 14 E_Flush1 := ⟨ok_Flush.1, fun ivs res bxs h => by
  unfold E_Flush1 at h
  split at h
  · rename_i p
    obtain ⟨hc, he⟩ := pick1 h
    cases he
    refine ok_Flush.2 _ _ _ ?_
    have h2 : dskB (asDk p) = true := by rw [Bool.and_eq_true] at hc; exact hc.2
    unfold E_Flush flY
    dsimp only
    rw [hc, h2]
    rfl
  · cases h⟩
theorem ok_hjb1 : EntriesOk Try.prog hjb1 := ⟨ok_long2, ok_DLoss, ok_SDk, ok_Flush1, ok_Loss1, ok_Same, ok_DiskRead, ok_DRot, ok_Rot1, trivial⟩
theorem isDkB {d : DskT} (h : shDk d) : isE pDk shDk (PV.agg [PV.int .i64 d.wide, pL d.secs, pPs d.puts]) = true := isDk_mk h
theorem asDkB (d : DskT) : asE pDk (PV.agg [PV.int .i64 d.wide, pL d.secs, pPs d.puts]) = d := asDk_mk d
/-! The loops. -/
theorem touchB_cons (x : PutT) (t : List PutT) (i : Int) : touchB (x :: t) i = ((x.at_ == i) || touchB t i) := rfl
theorem in_loop (more : PV) (d f y : DskT) (hd : shDk d) (c i : Int) : ∀ (m k : Nat) (t : Bool), m + k = d.puts.length → LoopsTo (rdB brC Try.prog hjb1 lp_law LO_law Try.f4 18 []) [aP more, aBx 5 (dBx d), aBx 8 (dBx f), aBx 11 (dBx y), aI c, aI i, aB t, aI k]
    (.exit 2, [aP more, aBx 5 (dBx d), aBx 8 (dBx f), aBx 11 (dBx y), aI c, aI i, aB (t || touchB (d.puts.drop k) i)]) := by
  have hl := hd.2.2.1
  intro m
  induction m with
  | zero =>
    intro k t hm
    obtain rfl : k = d.puts.length := by omega
    refine .done _ _ ((r_18_eq more d f y c i t d.puts.length).trans ?_)
    rw [dF (by omega), List.drop_length]
    show _ = some (Sum.inr (_, [_, _, _, _, _, _, aB (t || false)]))
    rw [Bool.or_false]
    rfl
  | succ m ih =>
    intro k t hm
    have hk : k < d.puts.length := by omega
    have tree := r_18_eq more d f y c i t k
    simp (disch := omega) only [show decide ((k : Int) < (d.puts.length : Int)) = true from dT (by omega), show decide (0 ≤ (k : Int)) = true from dT (by omega), Int.toNat_natCast, List.drop_zero, drop_encP d.puts k hk, List.length_cons (a := PV.int IntKind.i64 d.puts[k].at_), List.headD_cons, PV.isInt, PV.asInt, blt0, wrap1, Bool.and_true, Bool.true_and] at tree
    rw [List.drop_eq_getElem_cons hk, touchB_cons]
    cases t with
    | true =>
      have ih' := ih (k + 1) true (by omega)
      exact .step _ _ _ tree ih'
    | false =>
      have ih' := ih (k + 1) (d.puts[k].at_ == i) (by omega)
      exact .step _ _ _ tree ih'
theorem yOk_at {d y : DskT} {c : Int} (h : yOk d y c) (hc : (c == 0) = true) {i : Nat} (hi : i < d.secs.length) (ht : touchB d.puts i = false) : ∃ hy : i < y.secs.length, y.secs[i] = d.secs[i] := by
  obtain ⟨h1, h2⟩ := h (beq_iff_eq.1 hc)
  have hy : i < y.secs.length := by omega
  refine ⟨hy, ?_⟩
  have := h2 i hi ht
  rw [List.getD_eq_getElem?_getD, List.getD_eq_getElem?_getD, List.getElem?_eq_getElem hy, List.getElem?_eq_getElem hi] at this
  exact this
theorem out_loop (more : PV) (d y : DskT) (hd : shDk d) (hf : shDk (flD d)) (hy : shDk y) (hB : dskB d = true) (c : Int) (hY : yOk d y c) : ∀ (m i : Nat), m + i = d.secs.length → LoopsTo (rdB brC Try.prog hjb1 lp_law LO_law Try.f4 14 []) [aP more, aBx 5 (dBx d), aBx 8 (dBx (flD d)), aBx 11 (dBx y), aI c, aI i]
    (.exit 0, [aP more, aX]) := by
  have hl := hd.2.1.1
  have hfl : (flD d).secs.length = d.secs.length := flushS_len _ _
  intro m
  induction m with
  | zero =>
    intro i hm
    obtain rfl : i = d.secs.length := by omega
    refine .done _ _ ((r_14_eq more d (flD d) y c d.secs.length).trans ?_)
    rw [dF (by omega)]
    rfl
  | succ m ih =>
    intro i hm
    have hi : i < d.secs.length := by omega
    have ih' := ih (i + 1) (by omega)
    have hif : i < (flD d).secs.length := by omega
    have tree := r_14_eq more d (flD d) y c i
    have hrd : readS d.puts d.secs i = (flD d).secs[i] := by
      rw [readS_flush, List.getD_eq_getElem?_getD]
      show ((flD d).secs[i]?).getD _ = _
      rw [List.getElem?_eq_getElem hif]
      rfl
    have hn : ∀ n, Nat.beq n n = true := Nat.beq_refl
    simp (disch := omega) only [isDkB hd, isDkB hf, isDkB hy, isDk_mk hd, asDk_mk, asDkB, hB, hn, beq_self_eq_true, Bool.not_false, show decide ((i : Int) < (d.secs.length : Int)) = true from dT (by omega), show decide ((i : Int) ≥ ((flD d).secs.length : Int)) = false from dF (by omega), show decide ((i : Int) < ((flD d).secs.length : Int)) = true from dT (by omega), show decide (0 ≤ (i : Int)) = true from dT (by omega), Int.toNat_natCast, drop_strs (flD d).secs i hif, drop_strs d.secs i hi, hrd, List.length_cons (a := PV.str (flD d).secs[i]), List.length_cons (a := PV.str d.secs[i]), List.headD_cons, PV.isStr, PV.asStr, blt0, wrap1, Bool.and_true, Bool.true_and] at tree
    cases hc0 : (c == 0) with
    | false => rw [hc0] at tree; exact .step _ _ _ tree ih'
    | true =>
      rw [hc0] at tree
      cases ht : touchB d.puts i with
      | true => rw [ht] at tree; exact .step _ _ _ tree ih'
      | false =>
        obtain ⟨hyi, hye⟩ := yOk_at hY hc0 hi ht
        simp (disch := omega) only [ht, Bool.not_false, show decide ((i : Int) < (y.secs.length : Int)) = true from dT (by omega), drop_strs y.secs i hyi, hye, List.length_cons (a := PV.str d.secs[i]), List.headD_cons, PV.isStr, PV.asStr, blt0, beq_self_eq_true, Bool.and_true, Bool.true_and] at tree
        exact .step _ _ _ tree ih'
/-! Plain laws. -/
theorem shDk_of {d : DskT} (h : dskB d = true) : shDk d := by
  obtain ⟨w1, w2, w3, w4, w5, w6, w7⟩ := dsk_facts h
  refine ⟨⟨by omega, by omega⟩, ⟨by omega, fun s hs => by have := w6 s hs; omega⟩, by omega, fun x hx => ?_⟩
  obtain ⟨b1, b2, b3⟩ := w7 x hx
  exact ⟨⟨by omega, by omega⟩, by omega⟩
theorem shDk_zero : shDk ⟨0, [], []⟩ := ⟨⟨by show (-1000000000 : Int) ≤ 0; omega, by show (0 : Int) ≤ 1000000000; omega⟩, ⟨by simp, fun s hs => by cases hs⟩, by simp, fun x hx => by cases hx⟩
theorem dskB_mk {d : DskT} (w1 : 1 ≤ d.wide) (w2 : d.wide ≤ 2000) (w3 : 1 ≤ d.secs.length) (w4 : d.secs.length ≤ 400) (w5 : d.puts.length ≤ 400) (w6 : ∀ s ∈ d.secs, (s.size : Int) = d.wide) (w7 : ∀ x ∈ d.puts, 0 ≤ x.at_ ∧ x.at_ < (d.secs.length : Int) ∧ (x.byt.size : Int) = d.wide) : dskB d = true := by
  unfold dskB
  simp only [Bool.and_eq_true, decide_eq_true_eq, List.all_eq_true]
  refine ⟨⟨⟨⟨⟨⟨w1, w2⟩, w3⟩, w4⟩, w5⟩, w6⟩, fun x hx => ?_⟩
  obtain ⟨b1, b2, b3⟩ := w7 x hx
  unfold okPut
  rw [dT b1, dT (show x.at_ ≤ (d.secs.length : Int) - 1 by omega), dT b3]
  rfl
theorem setS_sz {w : Int} {ss : List ByteArray} (h : ∀ s ∈ ss, (s.size : Int) = w) {b : ByteArray} (hb : (b.size : Int) = w) (n : Int) : ∀ s ∈ setS ss n b, (s.size : Int) = w := by
  unfold setS
  split
  · intro s hs
    rcases List.mem_or_eq_of_mem_set hs with h' | h'
    · exact h s h'
    · rw [h']; exact hb
  · exact h
theorem flushS_sz {w : Int} : ∀ (t : List PutT) {ss : List ByteArray}, (∀ s ∈ ss, (s.size : Int) = w) → (∀ x ∈ t, (x.byt.size : Int) = w) → ∀ s ∈ flushS t ss, (s.size : Int) = w
  | [], ss, h, _ => h
  | x :: t, ss, h, ht => by
    unfold flushS
    exact flushS_sz t (setS_sz h (ht x (by simp)) _) fun y hy => ht y (by simp [hy])
theorem dskB_fl {d : DskT} (h : dskB d = true) : dskB (flD d) = true := by
  obtain ⟨w1, w2, w3, w4, w5, w6, w7⟩ := dsk_facts h
  have hl : (flD d).secs.length = d.secs.length := flushS_len _ _
  exact dskB_mk (d := flD d) w1 w2 (by omega) (by omega) (Nat.zero_le _) (flushS_sz d.puts w6 fun x hx => (w7 x hx).2.2) (fun x hx => by cases hx)
theorem sameDk_self (d : DskT) : sameDk d d = true := by
  unfold sameDk sameS sameP
  rw [holds_mk rfl, holds_mk rfl, beq_self_eq_true]
  rfl
theorem lossD_none (d : DskT) : lossD (flD d) [] (-1) = flD d := by
  unfold lossD
  rw [lossF_nil]
  rfl
theorem lossOk_none {d : DskT} (h : dskB d = true) : lossOk d [] (-1) = true := by
  have := (dsk_facts h).1
  unfold lossOk
  rw [dT (show (-1 : Int) ≤ -1 by omega), dT (show (-1 : Int) ≤ d.wide by omega)]
  rfl
theorem lossY_none {d : DskT} (h : dskB d = true) : lossY (flD d) [] (-1) = flD d ∧ lossC (flD d) [] (-1) = 0 := by
  have hf := dskB_fl h
  unfold lossY lossC
  rw [hf, lossOk_none hf, lossD_none]
  exact ⟨rfl, rfl⟩
theorem getD_puts {t : List PutT} {K : Nat} (h : K < t.length) : t.getD K default = t[K] := by rw [List.getD_eq_getElem?_getD, List.getElem?_eq_getElem h]; rfl
theorem lossF_keeps {t : List PutT} {torn : Int} {i : Nat} (ht : touchB t i = false) : ∀ (xs : List Int) (ss : List ByteArray), inI t.length xs = true → (lossF t torn xs ss).getD i ⟨#[]⟩ = ss.getD i ⟨#[]⟩
  | [], ss, _ => by rw [lossF_nil]
  | x :: r, ss, hx => by
    have h0 := inI_at hx (i := 0) (by simp)
    obtain ⟨K, hK⟩ := Int.eq_ofNat_of_zero_le h0.1
    simp only [List.getElem_cons_zero] at hK h0
    rw [lossF_cons, lossF_keeps ht r _ (List.all_eq_true.2 fun y hy => List.all_eq_true.1 hx y (by simp [hy])), hK, Int.toNat_natCast, getD_puts (by omega)]
    have hne := List.any_eq_false.1 ht _ (List.getElem_mem (show K < t.length by omega))
    simp only [beq_iff_eq] at hne
    unfold setS
    split
    · rename_i hp
      rw [List.getD_eq_getElem?_getD, List.getD_eq_getElem?_getD, List.getElem?_set_ne (by omega)]
    · rfl
theorem lossW_size {p : PutT} {w torn : Int} {ss : List ByteArray} {last : Bool} (hb : (p.byt.size : Int) = w) (hs : ∀ s ∈ ss, (s.size : Int) = w) (ha : 0 ≤ p.at_) (hal : p.at_ < (ss.length : Int)) (ht : torn ≤ w) : ((lossW p last torn ss).size : Int) = w := by
  unfold lossW
  cases hc : (last && decide (0 ≤ torn)) with
  | false => exact hb
  | true =>
    rw [Bool.and_eq_true, decide_eq_true_eq] at hc
    obtain ⟨J, hJ⟩ := Int.eq_ofNat_of_zero_le ha
    have hJ2 : J < ss.length := by omega
    refine tornB_size hb ?_ hc.2 ht
    rw [hJ, Int.toNat_natCast, List.getD_eq_getElem?_getD, List.getElem?_eq_getElem hJ2]
    exact hs _ (List.getElem_mem hJ2)
theorem lossF_sz {t : List PutT} {torn w : Int} (htn : torn ≤ w) {m : Nat} (ht : ∀ x ∈ t, 0 ≤ x.at_ ∧ x.at_ < (m : Int) ∧ (x.byt.size : Int) = w) : ∀ (xs : List Int) (ss : List ByteArray), inI t.length xs = true → ss.length = m → (∀ s ∈ ss, (s.size : Int) = w) → ∀ s ∈ lossF t torn xs ss, (s.size : Int) = w
  | [], ss, _, _, h => by rw [lossF_nil]; exact h
  | x :: r, ss, hx, hm, h => by
    have h0 := inI_at hx (i := 0) (by simp)
    obtain ⟨K, hK⟩ := Int.eq_ofNat_of_zero_le h0.1
    simp only [List.getElem_cons_zero] at hK h0
    obtain ⟨b1, b2, b3⟩ := ht _ (List.getElem_mem (show K < t.length by omega))
    rw [lossF_cons, hK, Int.toNat_natCast, getD_puts (by omega)]
    exact lossF_sz htn ht r _ (List.all_eq_true.2 fun y hy => List.all_eq_true.1 hx y (by simp [hy])) (by rw [setS_len]; exact hm) (setS_sz h (lossW_size b3 h b1 (by omega) htn) _)
theorem lossY_ok {d : DskT} (h : dskB d = true) (xs : List Int) (t : Int) : shDk (lossY d xs t) ∧ yOk d (lossY d xs t) (lossC d xs t) := by
  obtain ⟨w1, w2, w3, w4, w5, w6, w7⟩ := dsk_facts h
  unfold lossY lossC
  rw [h]
  cases hL : lossOk d xs t with
  | false => exact ⟨shDk_zero, fun e => by cases e⟩
  | true =>
    obtain ⟨hin, ht0, ht1, _⟩ := lossOk_inI hL
    have hl : (lossD d xs t).secs.length = d.secs.length := lossF_len _ _ _ _
    refine ⟨shDk_of (dskB_mk (d := lossD d xs t) w1 w2 (by omega) (by omega) (Nat.zero_le _) (lossF_sz ht1 w7 xs d.secs hin rfl w6) (fun x hx => by cases hx)), fun _ => ⟨hl, fun i hi ht => lossF_keeps ht xs d.secs hin⟩⟩
theorem rotD_facts {d : DskT} {a q b : Int} (h : dskB d = true) (hr : rotOk d a q b = true) : dskB (rotD d a q b) = true ∧ rotOk (rotD d a q b) a q b = true ∧ rotD (rotD d a q b) a q b = d ∧ sameDk (rotD d a q b) d = false := by
  obtain ⟨w1, w2, w3, w4, w5, w6, w7⟩ := dsk_facts h
  have hr0 := hr
  unfold rotOk at hr
  simp only [Bool.and_eq_true, decide_eq_true_eq] at hr
  obtain ⟨⟨⟨a1, a2⟩, q1, q2⟩, b1, b2⟩ := hr
  obtain ⟨A, rfl⟩ := Int.eq_ofNat_of_zero_le a1
  obtain ⟨Q, rfl⟩ := Int.eq_ofNat_of_zero_le q1
  have hA : A < d.secs.length := by omega
  have hsz := w6 _ (List.getElem_mem hA)
  have hQ : Q < d.secs[A].size := by omega
  have hgd : d.secs.getD A ⟨#[]⟩ = d.secs[A] := by rw [List.getD_eq_getElem?_getD, List.getElem?_eq_getElem hA]; rfl
  have hx : rotD d (A : Int) (Q : Int) b = ⟨d.wide, d.secs.set A (xorB d.secs[A] Q b), d.puts⟩ := by
    unfold rotD
    rw [Int.toNat_natCast, Int.toNat_natCast, hgd]
  rw [hx]
  have hl : (d.secs.set A (xorB d.secs[A] Q b)).length = d.secs.length := List.length_set
  refine ⟨dskB_mk (d := ⟨d.wide, d.secs.set A (xorB d.secs[A] Q b), d.puts⟩) w1 w2 (by dsimp only; omega) (by dsimp only; omega) w5 (fun s hs => ?_) (fun x hx => by dsimp only; rw [hl]; exact w7 x hx), ?_, ?_, ?_⟩
  · rcases List.mem_or_eq_of_mem_set hs with h' | h'
    · exact w6 s h'
    · rw [h', xorB_size]; exact hsz
  · unfold rotOk at hr0 ⊢
    dsimp only
    rw [hl]
    exact hr0
  · unfold rotD
    dsimp only
    rw [Int.toNat_natCast, Int.toNat_natCast, List.getD_eq_getElem?_getD, List.getElem?_set_self hA, List.set_set]
    show (⟨d.wide, d.secs.set A (xorB (xorB d.secs[A] Q b) Q b), d.puts⟩ : DskT) = d
    rw [xorB_back _ _ _ hQ, List.set_getElem_self]
  · unfold sameDk sameS
    cases hh : holds (d.secs.set A (xorB d.secs[A] Q b) = d.secs) with
    | false => simp
    | true =>
      have e := congrArg (fun l => l[A]?) (holds_inv hh)
      simp only [List.getElem?_set_self hA, List.getElem?_eq_getElem hA] at e
      injection e with e
      exact absurd e (xorB_ne _ _ _ hQ b1 b2)
theorem rotY_sh {d : DskT} (a q b : Int) : shDk (rotY d a q b) := by
  unfold rotY
  cases h : dskB d with
  | false => exact shDk_zero
  | true =>
    cases hr : rotOk d a q b with
    | false => exact shDk_zero
    | true => exact shDk_of (rotD_facts h hr).1
/-- Rot, turned once more. -/
theorem rot_law (d : DskT) (a q b : Int) : (rotC d a q b != 0) = true ∨ ((rotC d a q b != 0) = false ∧ rotC (rotY d a q b) a q b = 0 ∧ sameDk (rotY (rotY d a q b) a q b) d = true ∧ sameDk (rotY d a q b) d = false) := by
  cases h : dskB d with
  | false => left; unfold rotC; rw [h]; rfl
  | true =>
    cases hr : rotOk d a q b with
    | false => left; unfold rotC; rw [h, hr]; rfl
    | true =>
      right
      obtain ⟨h1, h2, h3, h4⟩ := rotD_facts h hr
      have e : rotY d a q b = rotD d a q b := by unfold rotY; rw [h, hr]; rfl
      have e2 : rotY (rotD d a q b) a q b = d := by unfold rotY; rw [h1, h2]; exact h3
      rw [e, e2]
      refine ⟨by unfold rotC; rw [h, hr]; rfl, by unfold rotC; rw [h1, h2]; rfl, sameDk_self d, h4⟩
theorem law_any (n m : Nat) (l k : List PV) (hw : wfB n l = true) (hk : wfB m k = true) : q_law brC n m l k = some (cB true, []) := by
  have tree := q_law_eq n m l k
  by_cases hn : (n : Int) > 1048576
  · rw [dT hn] at tree; exact tree
  by_cases hm : (m : Int) > 1048576
  · rw [dF hn, dT hm] at tree; exact tree
  obtain ⟨⟨L1, L2, L3, L4, L5⟩, _⟩ := loss_ok hw (show n ≤ 1048577 by omega)
  obtain ⟨⟨R1, _⟩, _⟩ := rot_ok hk (show m ≤ 1048577 by omega)
  have hd := dkR.sh L1
  have hr := dkR.sh R1
  generalize lossV n l = L at tree L2 L3 L4 L5 hd
  generalize rotV m k = R at tree hr
  obtain ⟨d, keep, torn⟩ := L
  obtain ⟨r, a, p, b⟩ := R
  dsimp only at tree L2 L3 L4 L5 hd hr
  have hki : shI keep := ⟨by omega, fun x hx => by have := L3 x hx; exact ⟨by omega, by omega⟩⟩
  have i0 := isI_mk hki
  have i00 := asI_mk keep
  have i1 : isI (PV.sl 0 []) = true := isI_mk (xs := []) ⟨by simp, fun x hx => by cases hx⟩
  have i2 : asI (PV.sl 0 []) = [] := asI_mk []
  rw [dF hn, dF hm] at tree
  simp only [hw, hk, show decide (n ≤ 1048577) = true from dT (by omega), show decide (m ≤ 1048577) = true from dT (by omega), asDk_mk, asDkB, isDk_mk hd, isDkB hd, Bool.and_true, Bool.true_and, Bool.or_false] at tree
  cases hB : dskB d with
  | false => rw [hB] at tree; exact tree
  | true =>
    have hf := shDk_of (dskB_fl hB)
    have e1 : flY d = flD d := by unfold flY; rw [hB]; rfl
    obtain ⟨e2, e3⟩ := lossY_none hB
    obtain ⟨hy, hY⟩ := lossY_ok hB keep torn
    have hn0 : ∀ n, Nat.beq n n = true := Nat.beq_refl
    have ht0 : holds True = true := holds_mk trivial
    have hpl : ((((flD d).puts.length : Nat) : Int) != 0) = false := rfl
    simp only [hB, e1, i0, i00, i1, i2, isDk_mk hf, isDkB hf, e2, e3, sameDk_self, hn0, ht0, hpl, bne_self_eq_false, beq_self_eq_true, isDk_mk hy, isDkB hy, holds_mk hY, Bool.not_true, Bool.and_true, Bool.true_and] at tree
    have hrx := rotY_sh (d := r) a p b
    have hry := rotY_sh (d := rotY r a p b) a p b
    simp only [isDk_mk hr, isDkB hr, isDk_mk hrx, isDkB hrx, isDk_mk hry, isDkB hry, Bool.and_true, Bool.true_and] at tree
    have fin : brC (rotC r a p b != 0) (some (cB true, [])) (brC (rotC (rotY r a p b) a p b == 0) (brC true (brC (sameDk (rotY (rotY r a p b) a p b) r) (brC true (some (cB (!sameDk (rotY r a p b) r), [])) none) (some (cB false, []))) none) (some (cB false, []))) = some ((cB true, []) : IV × List (List CV)) := by
      rcases rot_law r a p b with h | ⟨h1, h2, h3, h4⟩
      · rw [h]; rfl
      · rw [h1, h2, h3, h4]; rfl
    cases hc : (lossC d keep torn == 0) with
    | false =>
      rw [hc] at tree
      exact tree.trans fin
    | true =>
      have h5 : (((lossY d keep torn).secs.length : Int) != (d.secs.length : Int)) = false := by
        rw [(hY (beq_iff_eq.1 hc)).1]
        exact bne_self_eq_false _
      rw [hc, h5] at tree
      exact tree.trans fin
end Go.Proofs.Ytjbjgeekglpmlaa
