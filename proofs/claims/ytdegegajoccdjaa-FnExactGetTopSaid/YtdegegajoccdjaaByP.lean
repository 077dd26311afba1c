/- Bytes of numbers, readers of bytes, stamped sectors, by the reckoner: proofs. -/
import Derived.Test.YtdegegajoccdjaaByT
namespace Go.Proofs.Ytdegegajoccdjaa
open Go.RowKit
set_option linter.unusedVariables false
set_option linter.unusedSimpArgs false
set_option maxRecDepth 100000

theorem ok_within : EntryOk Try.prog 37 E_within := entry_of mix (tab := []) trivial (lp := []) (LO := LO0) ⟨Try.func37, by kernel_rfl, by kernel_rfl⟩ (by kernel_rfl) fun ivs res bxs h => by
  unfold E_within at h
  split at h
  · rename_i n a b
    obtain ⟨hc, he⟩ := pick1 h
    cases he
    refine ⟨noLoop (by kernel_rfl), (q_within_eq n a b).trans ?_⟩
    cases decide (a ≤ n) <;> cases decide (n ≤ b) <;> rfl
  · cases h
theorem ok_In : EntryOk Try.prog 41 E_within := entry_of mix (tab := []) trivial (lp := []) (LO := LO0) ⟨Try.func41, by kernel_rfl, by kernel_rfl⟩ (by kernel_rfl) fun ivs res bxs h => by
  unfold E_within at h
  split at h
  · rename_i n a b
    obtain ⟨hc, he⟩ := pick1 h
    cases he
    refine ⟨noLoop (by kernel_rfl), (q_In_eq n a b).trans ?_⟩
    rw [show decide (n ≥ a) = decide (a ≤ n) from rfl]
    cases decide (a ≤ n) <;> cases decide (n ≤ b) <;> rfl
  · cases h
/-! Numbers of bytes. -/
theorem len_toList (s : ByteArray) : s.data.toList.length = s.size := Array.length_toList
theorem numL_lt : ∀ l : List UInt8, numL l < 256 ^ l.length
  | [] => by decide
  | b :: t => by
    have h := numL_lt t
    have hb := b.toNat_lt
    show b.toNat + 256 * numL t < 256 ^ (t.length + 1)
    rw [Nat.pow_succ]
    generalize 256 ^ t.length = x at h ⊢
    omega
theorem numL_small (l : List UInt8) (h : l.length ≤ 6) : numL l < 281474976710656 := Nat.lt_of_lt_of_le (numL_lt l) (Nat.le_trans (Nat.pow_le_pow_right (by decide) h) (by decide))
theorem or8 (m b : Nat) (hb : b < 256) (hm : m < 281474976710656) : bits .or .i64 ((m * 256 : Nat) : Int) ((b : Nat) : Int) = ((m * 256 + b : Nat) : Int) := by
  have h1 : (BitVec.ofInt 64 ((m * 256 : Nat) : Int)).toNat = m * 256 := by rw [BitVec.ofInt_natCast, BitVec.toNat_ofNat]; exact Nat.mod_eq_of_lt (by omega)
  have h2 : (BitVec.ofInt 64 (b : Int)).toNat = b := by rw [BitVec.ofInt_natCast, BitVec.toNat_ofNat]; exact Nat.mod_eq_of_lt (by omega)
  show IntKind.i64.wrap ((BitVec.ofInt 64 ((m * 256 : Nat) : Int) ||| BitVec.ofInt 64 (b : Int)).toNat : Int) = _
  have h3 := Nat.two_pow_add_eq_or_of_lt (i := 8) (b := b) (by omega) m
  rw [BitVec.toNat_or, h1, h2, Nat.mul_comm m 256, show (256 : Nat) * m ||| b = 256 * m + b from h3.symm]
  exact wrapI (by omega) (by omega)
theorem fixAnd (n : Nat) (h : n < 9223372036854775808) : bits .and .i64 (n : Int) 255 = ((n % 256 : Nat) : Int) := by
  have h1 : (BitVec.ofInt 64 (n : Int)).toNat = n := by rw [BitVec.ofInt_natCast, BitVec.toNat_ofNat]; exact Nat.mod_eq_of_lt (by omega)
  have h2 : (BitVec.ofInt 64 (255 : Int)).toNat = 255 := by decide
  show IntKind.i64.wrap ((BitVec.ofInt 64 (n : Int) &&& BitVec.ofInt 64 255).toNat : Int) = _
  rw [BitVec.toNat_and, h1, h2, show n &&& 255 = n % 256 from Nat.and_two_pow_sub_one_eq_mod n 8]
  exact wrapI (by omega) (by omega)
theorem number_loop (s : ByteArray) (hs : s.size ≤ 7) : ∀ k : Nat, k ≤ s.size → LoopsTo (rdB brC Try.prog [] lp_num LO_num Try.f24 3 []) [aS s, aI ((numL (s.data.toList.drop k) : Nat) : Int), aI ((k : Int) - 1)] (.exit 0, [aI (numV s)]) := by
  intro k
  induction k with
  | zero =>
    intro _
    refine .done _ _ ((r_number_eq s _ _).trans ?_)
    rw [dF (by omega)]
    rfl
  | succ k ih =>
    intro hk
    have hl : k < s.data.toList.length := by rw [len_toList]; exact hk
    have hd : s.data.toList.drop k = s.data.toList[k] :: s.data.toList.drop (k + 1) := List.drop_eq_getElem_cons hl
    have hb := (s.data.toList[k]).toNat_lt
    have hn := numL_small (s.data.toList.drop (k + 1)) (by rw [List.length_drop, len_toList]; omega)
    have hv : numL (s.data.toList.drop k) = (s.data.toList[k]).toNat + 256 * numL (s.data.toList.drop (k + 1)) := by rw [hd]; rfl
    have ih := ih (by omega)
    rw [hv] at ih
    have hg : s.data.toList.getD k 0 = s.data.toList[k] := by rw [List.getD_eq_getElem?_getD, List.getElem?_eq_getElem hl]; rfl
    generalize numL (s.data.toList.drop (k + 1)) = m at hn ih
    have tree := r_number_eq s (m : Int) (((k + 1 : Nat) : Int) - 1)
    have e0 : ((k + 1 : Nat) : Int) - 1 = (k : Int) := by omega
    rw [e0] at tree ⊢
    have w1 : IntKind.wrap .i64 ((m : Int) * 2 ^ 8) = ((m * 256 : Nat) : Int) := by rw [show (2 : Int) ^ 8 = 256 from rfl, wrapI (by omega) (by omega)]; omega
    rw [Int.toNat_natCast, hg] at tree
    generalize (s.data.toList[k]).toNat = b at hb ih tree
    have w2 : IntKind.wrap .i64 ((b : Nat) : Int) = (b : Int) := wrapI (by omega) (by omega)
    have w3 : IntKind.wrap .i64 (((m * 256 : Nat) : Int) + (b : Int)) = ((b + 256 * m : Nat) : Int) := by rw [wrapI (by omega) (by omega)]; omega
    have w4 : IntKind.wrap .i64 ((k : Int) - 1) = (k : Int) - 1 := wrapI (by omega) (by omega)
    rw [w1, w2, w3, w4] at tree
    simp (disch := omega) only [dT, Bool.and_true] at tree
    exact .step _ _ _ tree ih
theorem l18Num_loop (s : ByteArray) (hs : s.size ≤ 7) : ∀ k : Nat, k ≤ s.size → LoopsTo (rdB brC Try.prog [] lp_num LO_num Try.f21 3 []) [aS s, aI ((numL (s.data.toList.drop k) : Nat) : Int), aI ((k : Int) - 1)] (.exit 0, [aI (numV s)]) := by
  intro k
  induction k with
  | zero =>
    intro _
    refine .done _ _ ((r_l18Num_eq s _ _).trans ?_)
    rw [dF (by omega)]
    rfl
  | succ k ih =>
    intro hk
    have hl : k < s.data.toList.length := by rw [len_toList]; exact hk
    have hd : s.data.toList.drop k = s.data.toList[k] :: s.data.toList.drop (k + 1) := List.drop_eq_getElem_cons hl
    have hb := (s.data.toList[k]).toNat_lt
    have hn := numL_small (s.data.toList.drop (k + 1)) (by rw [List.length_drop, len_toList]; omega)
    have hv : numL (s.data.toList.drop k) = (s.data.toList[k]).toNat + 256 * numL (s.data.toList.drop (k + 1)) := by rw [hd]; rfl
    have ih := ih (by omega)
    rw [hv] at ih
    have hg : s.data.toList.getD k 0 = s.data.toList[k] := by rw [List.getD_eq_getElem?_getD, List.getElem?_eq_getElem hl]; rfl
    generalize numL (s.data.toList.drop (k + 1)) = m at hn ih
    have tree := r_l18Num_eq s (m : Int) (((k + 1 : Nat) : Int) - 1)
    have e0 : ((k + 1 : Nat) : Int) - 1 = (k : Int) := by omega
    rw [e0] at tree ⊢
    have w1 : IntKind.wrap .i64 ((m : Int) * 2 ^ 8) = ((m * 256 : Nat) : Int) := by rw [show (2 : Int) ^ 8 = 256 from rfl, wrapI (by omega) (by omega)]; omega
    rw [Int.toNat_natCast, hg] at tree
    generalize (s.data.toList[k]).toNat = b at hb ih tree
    have w2 : IntKind.wrap .i64 ((b : Nat) : Int) = (b : Int) := wrapI (by omega) (by omega)
    have w3 : ((m * 256 + b : Nat) : Int) = ((b + 256 * m : Nat) : Int) := by omega
    have w4 : IntKind.wrap .i64 ((k : Int) - 1) = (k : Int) - 1 := wrapI (by omega) (by omega)
    rw [w1, w2, or8 m b (by omega) hn, w3, w4] at tree
    simp (disch := omega) only [dT, Bool.and_true] at tree
    exact .step _ _ _ tree ih
theorem num_all (s : ByteArray) : ((numL (s.data.toList.drop s.size) : Nat) : Int) = 0 := by rw [← len_toList, List.drop_length]; rfl
theorem beqI (x : Int) : (x == x) = true := beq_self_eq_true x
theorem ok_number : EntryOk Try.prog 24 E_number := entry_of mix (tab := []) trivial (lp := lp_num) (LO := LO_num) ⟨Try.func24, by kernel_rfl, by kernel_rfl⟩ (by kernel_rfl) fun ivs res bxs h => by
  unfold E_number at h
  split at h
  · rename_i s
    obtain ⟨hc, he⟩ := pick1 h
    cases he
    have hs := of_decide_eq_true hc
    refine ⟨?_, (q_number_eq s).trans ?_⟩
    · refine oneLoop 3 (by kernel_rfl) (by kernel_rfl) (by kernel_rfl) ?_
      intro ls e ls' hl
      replace hl : pickA (LO_num 3 ls) = some (e, ls') := hl
      unfold LO_num at hl
      split at hl
      · rename_i s n i
        obtain ⟨hc, he⟩ := pick1 hl
        cases he
        obtain ⟨hc, k2⟩ := andE hc
        obtain ⟨k0, k1⟩ := andE hc
        have hs := of_decide_eq_true k0
        obtain rfl := eq_of_beq k1
        obtain rfl := eq_of_beq k2
        have := number_loop s hs s.size (Nat.le_refl _)
        rw [num_all] at this
        exact this
      · cases hl
    · rw [wrapI (by omega) (by omega), dT hs, beqI]
      rfl
  · cases h
theorem ok_l18Num : EntryOk Try.prog 21 E_number := entry_of mix (tab := []) trivial (lp := lp_num) (LO := LO_num) ⟨Try.func21, by kernel_rfl, by kernel_rfl⟩ (by kernel_rfl) fun ivs res bxs h => by
  unfold E_number at h
  split at h
  · rename_i s
    obtain ⟨hc, he⟩ := pick1 h
    cases he
    have hs := of_decide_eq_true hc
    refine ⟨?_, (q_l18Num_eq s).trans ?_⟩
    · refine oneLoop 3 (by kernel_rfl) (by kernel_rfl) (by kernel_rfl) ?_
      intro ls e ls' hl
      replace hl : pickA (LO_num 3 ls) = some (e, ls') := hl
      unfold LO_num at hl
      split at hl
      · rename_i s n i
        obtain ⟨hc, he⟩ := pick1 hl
        cases he
        obtain ⟨hc, k2⟩ := andE hc
        obtain ⟨k0, k1⟩ := andE hc
        have hs := of_decide_eq_true k0
        obtain rfl := eq_of_beq k1
        obtain rfl := eq_of_beq k2
        have := l18Num_loop s hs s.size (Nat.le_refl _)
        rw [num_all] at this
        exact this
      · cases hl
    · rw [wrapI (by omega) (by omega), dT hs, beqI]
      rfl
  · cases h
/-! Bytes of numbers. -/
theorem u8w (n : Nat) : IntKind.wrap .u8 (n : Int) = (((UInt8.ofNat n).toNat : Nat) : Int) := by
  have e : IntKind.wrap .u8 (n : Int) = (n : Int) % 256 := by unfold IntKind.wrap; rfl
  rw [e, UInt8.toNat_ofNat']
  omega
theorem fd256 (n : Nat) : Int.fdiv (n : Int) (2 ^ 8) = ((n / 256 : Nat) : Int) := by
  rw [Int.fdiv_eq_ediv_of_nonneg _ (by decide)]
  show (n : Int) / 256 = _
  omega
theorem pvB_app (a b : List UInt8) : pvB (a ++ b) = pvB a ++ pvB b := List.map_append
theorem pvB_len (a : List UInt8) : (pvB a).length = a.length := List.length_map _
theorem litL_len : ∀ (k n : Nat), (litL k n).length = k
  | 0, _ => rfl
  | k + 1, n => by show (litL k (n / 256)).length + 1 = k + 1; rw [litL_len k]
theorem little_loop : ∀ (c n i : Nat) (l : List UInt8), c + i ≤ 8 → l.length ≤ i →
    LoopsTo (rdB brC Try.prog [] lp_lit LO_lit Try.f47 3 []) [aI n, oB 5 (pvB l), aI ((c + i : Nat) : Int), aI i] (.exit 0, [oB 5 (pvB (l ++ litL c n))]) := by
  intro c
  induction c with
  | zero =>
    intro n i l h1 h2
    refine .done _ _ ((r_little_eq _ _ _ _).trans ?_)
    rw [dF (by omega), show litL 0 n = [] from rfl, List.append_nil]
    rfl
  | succ c ih =>
    intro n i l h1 h2
    have tree := r_little_eq (n : Int) (pvB l) ((c + 1 + i : Nat) : Int) (i : Int)
    have w1 : IntKind.wrap .i64 ((i : Int) + 1) = ((i + 1 : Nat) : Int) := by rw [wrapI (by omega) (by omega)]; omega
    have e1 : pvB l ++ [PV.int .u8 (((UInt8.ofNat n).toNat : Nat) : Int)] = pvB (l ++ [UInt8.ofNat n]) := (pvB_app l [UInt8.ofNat n]).symm
    have e2 : (pvB l).length + 1 = (pvB (l ++ [UInt8.ofNat n])).length := by rw [pvB_app, List.length_append]; rfl
    have e3 : (pvB (l ++ [UInt8.ofNat n])).length = l.length + 1 := by rw [pvB_len, List.length_append]; rfl
    rw [w1, fd256, u8w, e1, e2] at tree
    simp (disch := omega) only [dT, Bool.and_true, show Nat.beq (List.length [PV.int IntKind.u8 (((UInt8.ofNat n).toNat : Nat) : Int)]) (1 * 1) = true from rfl] at tree
    have := ih (n / 256) (i + 1) (l ++ [UInt8.ofNat n]) (by omega) (by rw [List.length_append]; simp only [List.length_singleton]; omega)
    rw [show c + (i + 1) = c + 1 + i by omega, List.append_assoc, show [UInt8.ofNat n] ++ litL c (n / 256) = litL (c + 1) n from rfl] at this
    exact .step _ _ _ tree this
theorem fix_loop : ∀ (c n i : Nat) (l : List UInt8), c + i ≤ 8 → l.length ≤ i → n < 9223372036854775808 →
    LoopsTo (rdB brC Try.prog [] lp_fix LO_fix Try.f43 3 []) [aI n, aI ((c + i : Nat) : Int), oB 5 (pvB l), aI i] (.exit 0, [oB 5 (pvB (l ++ litL c n))]) := by
  intro c
  induction c with
  | zero =>
    intro n i l h1 h2 h3
    refine .done _ _ ((r_fix_eq _ _ _ _).trans ?_)
    rw [dF (by omega), show litL 0 n = [] from rfl, List.append_nil]
    rfl
  | succ c ih =>
    intro n i l h1 h2 h3
    have tree := r_fix_eq (n : Int) ((c + 1 + i : Nat) : Int) (pvB l) (i : Int)
    have w1 : IntKind.wrap .i64 ((i : Int) + 1) = ((i + 1 : Nat) : Int) := by rw [wrapI (by omega) (by omega)]; omega
    have e0 : IntKind.wrap .u8 (bits BinOp.and IntKind.i64 (n : Int) 255) = (((UInt8.ofNat n).toNat : Nat) : Int) := by
      rw [fixAnd n h3, u8w, UInt8.toNat_ofNat', UInt8.toNat_ofNat']
      omega
    have e1 : pvB l ++ [PV.int .u8 (((UInt8.ofNat n).toNat : Nat) : Int)] = pvB (l ++ [UInt8.ofNat n]) := (pvB_app l [UInt8.ofNat n]).symm
    have e2 : (pvB l).length + 1 = (pvB (l ++ [UInt8.ofNat n])).length := by rw [pvB_app, List.length_append]; rfl
    have e3 : (pvB (l ++ [UInt8.ofNat n])).length = l.length + 1 := by rw [pvB_len, List.length_append]; rfl
    rw [w1, fd256, e0, e1, e2] at tree
    simp (disch := omega) only [dT, Bool.and_true, show Nat.beq (List.length [PV.int IntKind.u8 (((UInt8.ofNat n).toNat : Nat) : Int)]) (1 * 1) = true from rfl] at tree
    have := ih (n / 256) (i + 1) (l ++ [UInt8.ofNat n]) (by omega) (by rw [List.length_append]; simp only [List.length_singleton]; omega) (by omega)
    rw [show c + (i + 1) = c + 1 + i by omega, List.append_assoc, show [UInt8.ofNat n] ++ litL c (n / 256) = litL (c + 1) n from rfl] at this
    exact .step _ _ _ tree this
theorem bytesOf_pvB : ∀ X : List UInt8, bytesOf (pvB X) = some X
  | [] => rfl
  | c :: X => by
    show (bytesOf (pvB X)).bind (fun r => some (UInt8.ofNat (Int.toNat (c.toNat : Int)) :: r)) = _
    rw [bytesOf_pvB X, Int.toNat_natCast]
    simp
theorem ok_little : EntryOk Try.prog 47 E_little := entry_of mix (tab := []) trivial (lp := lp_lit) (LO := LO_lit) ⟨Try.func47, by kernel_rfl, by kernel_rfl⟩ (by kernel_rfl) fun ivs res bxs h => by
  unfold E_little at h
  split at h
  · rename_i n m
    obtain ⟨hc, he⟩ := pick1 h
    cases he
    obtain ⟨hc, k2⟩ := andE hc
    obtain ⟨k0, k1⟩ := andE hc
    refine ⟨?_, (q_little_eq n m).trans ?_⟩
    · refine oneLoop 3 (by kernel_rfl) (by kernel_rfl) (by kernel_rfl) ?_
      intro ls e ls' hl
      replace hl : pickA (LO_lit 3 ls) = some (e, ls') := hl
      unfold LO_lit at hl
      split at hl
      · rename_i n x e0 c l m i
        obtain ⟨hc, he⟩ := pick1 hl
        cases he
        obtain ⟨hc, k7⟩ := andE hc
        obtain ⟨hc, k6⟩ := andE hc
        obtain ⟨hc, k5⟩ := andE hc
        obtain ⟨hc, k4⟩ := andE hc
        obtain ⟨hc, k3⟩ := andE hc
        obtain ⟨hc, k2⟩ := andE hc
        obtain ⟨k0, k1⟩ := andE hc
        obtain rfl := Nat.eq_of_beq_eq_true k1
        obtain rfl := Nat.eq_of_beq_eq_true k2
        obtain rfl := Nat.eq_of_beq_eq_true k3
        obtain rfl := nilB_inv k4
        obtain rfl := eq_of_beq k7
        have h0 := of_decide_eq_true k0
        have h5 := of_decide_eq_true k5
        have h6 := of_decide_eq_true k6
        obtain ⟨n, rfl⟩ := Int.eq_ofNat_of_zero_le h0
        obtain ⟨m, rfl⟩ := Int.eq_ofNat_of_zero_le h5
        exact little_loop m n 0 [] (by omega) (Nat.le_refl _)
      · cases hl
    · rw [k0, k1, k2, bytesOf_pvB, show Nat.beq (List.length (pvB (litL (Int.toNat m) (Int.toNat n)))) (List.length (pvB (litL (Int.toNat m) (Int.toNat n)))) = true from Nat.beq_refl _]
      rw [litV_eq]
      unfold bstr
      generalize litL m.toNat n.toNat = X
      rw [nilB_mk]
      rfl
  · cases h
theorem ok_fix : EntryOk Try.prog 43 E_fix := entry_of mix (tab := []) trivial (lp := lp_fix) (LO := LO_fix) ⟨Try.func43, by kernel_rfl, by kernel_rfl⟩ (by kernel_rfl) fun ivs res bxs h => by
  unfold E_fix at h
  split at h
  · rename_i n m
    obtain ⟨hc, he⟩ := pick1 h
    cases he
    obtain ⟨hc, k2⟩ := andE hc
    obtain ⟨k0, k1⟩ := andE hc
    obtain ⟨k0, k9⟩ := andE k0
    refine ⟨?_, (q_fix_eq n m).trans ?_⟩
    · refine oneLoop 3 (by kernel_rfl) (by kernel_rfl) (by kernel_rfl) ?_
      intro ls e ls' hl
      replace hl : pickA (LO_fix 3 ls) = some (e, ls') := hl
      unfold LO_fix at hl
      split at hl
      · rename_i n m x e0 c l i
        obtain ⟨hc, he⟩ := pick1 hl
        cases he
        obtain ⟨hc, k7⟩ := andE hc
        obtain ⟨hc, k6⟩ := andE hc
        obtain ⟨hc, k5⟩ := andE hc
        obtain ⟨hc, k4⟩ := andE hc
        obtain ⟨hc, k3⟩ := andE hc
        obtain ⟨hc, k2⟩ := andE hc
        obtain ⟨hc, k1⟩ := andE hc
        obtain ⟨k0, k9⟩ := andE hc
        obtain rfl := Nat.eq_of_beq_eq_true k1
        obtain rfl := Nat.eq_of_beq_eq_true k2
        obtain rfl := Nat.eq_of_beq_eq_true k3
        obtain rfl := nilB_inv k4
        obtain rfl := eq_of_beq k7
        have h0 := of_decide_eq_true k0
        have h9 := holds_inv k9
        have h5 := of_decide_eq_true k5
        have h6 := of_decide_eq_true k6
        obtain ⟨n, rfl⟩ := Int.eq_ofNat_of_zero_le h0
        obtain ⟨m, rfl⟩ := Int.eq_ofNat_of_zero_le h5
        exact fix_loop m n 0 [] (by omega) (Nat.le_refl _) (by omega)
      · cases hl
    · rw [k0, k9, k1, k2, bytesOf_pvB, show Nat.beq (List.length (pvB (litL (Int.toNat m) (Int.toNat n)))) (List.length (pvB (litL (Int.toNat m) (Int.toNat n)))) = true from Nat.beq_refl _]
      rw [litV_eq]
      unfold bstr
      generalize litL m.toNat n.toNat = X
      rw [nilB_mk]
      rfl
  · cases h
theorem ok_take : EntryOk Try.prog 25 E_take := entry_of mix (tab := []) trivial (lp := []) (LO := LO0) ⟨Try.func25, by kernel_rfl, by kernel_rfl⟩ (by kernel_rfl) fun ivs res bxs h => by
  unfold E_take at h
  split at h
  · rename_i s b n
    obtain ⟨hc, he⟩ := pick1 h
    cases he
    obtain ⟨k0, k1⟩ := andE hc
    have h0 := of_decide_eq_true k0
    have h1 := of_decide_eq_true k1
    obtain ⟨n, rfl⟩ := Int.eq_ofNat_of_zero_le h0
    refine ⟨noLoop (by kernel_rfl), (q_take_eq s b n).trans ?_⟩
    rw [Int.toNat_natCast, Int.toNat_natCast]
    unfold tkS tkR tkB
    by_cases hn : n ≤ s.size
    · rw [if_pos hn, if_pos hn, if_pos hn, dF (show ¬ (n : Int) > (s.size : Int) by omega)]
      simp (disch := omega) only [dT, Bool.and_true]
      rfl
    · rw [if_neg hn, if_neg hn, if_neg hn, dT (show (n : Int) > (s.size : Int) by omega)]
      rfl
  · cases h
theorem ok_byb0 : EntriesOk Try.prog byb0 := ⟨ok_take, trivial⟩
theorem tkS1 {s : ByteArray} (h : 1 ≤ s.size) : (tkS s 1).data.toList = [s.data.toList.getD 0 0] := by
  unfold tkS
  rw [if_pos h, extract_list]
  have : 0 < s.data.toList.length := by rw [len_toList]; exact h
  cases hl : s.data.toList with
  | nil => rw [hl] at this; cases this
  | cons a t => rfl
theorem tkS0 {s : ByteArray} (h : ¬ 1 ≤ s.size) : tkS s 1 = ⟨#[]⟩ := if_neg h
theorem ok_rone : EntryOk Try.prog 26 E_rone := entry_of mix ok_byb0 (lp := []) (LO := LO0) ⟨Try.func26, by kernel_rfl, by kernel_rfl⟩ (by kernel_rfl) fun ivs res bxs h => by
  unfold E_rone at h
  split at h
  · rename_i s b
    obtain ⟨hc, he⟩ := pick1 h
    cases he
    have h1 := of_decide_eq_true hc
    refine ⟨noLoop (by kernel_rfl), (q_rone_eq s b).trans ?_⟩
    rw [hc]
    unfold oneV numV
    by_cases hn : 1 ≤ s.size
    · have e1 := tkS1 hn
      have e2 : (tkS s 1).toList = [s.data.toList.getD 0 0] := by rw [ByteArray.toList_eq]; exact e1
      have e3 : (tkS s 1).size = 1 := by rw [← len_toList, e1]; rfl
      have hb := (s.data.toList.getD 0 0).toNat_lt
      have e4 : (List.getD [s.data.toList.getD 0 0] 0 0) = s.data.toList.getD 0 0 := rfl
      rw [e2, e3, e1, e4]
      have w : IntKind.wrap .i64 (((s.data.toList.getD 0 0).toNat : Nat) : Int) = (((s.data.toList.getD 0 0).toNat : Nat) : Int) := wrapI (by omega) (by omega)
      rw [w]
      rfl
    · rw [tkS0 hn, show (⟨#[]⟩ : ByteArray).toList = [] from ByteArray.toList_mk []]
      rfl
  · cases h
theorem ok_byb1 : EntriesOk Try.prog byb1 := ⟨ok_In, ok_within, trivial⟩
theorem bneF {a b : List UInt8} (h : a = b) : (!a == b) = false := by rw [h]; simp
theorem bneT {a b : List UInt8} (h : ¬ a = b) : (!a == b) = true := by simp [h]
theorem ok_Un : EntryOk Try.prog 23 E_Un := entry_of mix ok_byb1 (lp := []) (LO := LO0) ⟨Try.func23, by kernel_rfl, by kernel_rfl⟩ (by kernel_rfl) fun ivs res bxs h => by
  unfold E_Un at h
  split at h
  · rename_i s n
    have tree := q_Un_eq s n
    have main : n = 4 → s.size ≤ 2000000 → q_Un brC s n = if unV s 4 = true then some (.tup [cS (s.extract 0 4), cS (s.extract 4 (s.size - 4)), cB true], []) else some (.tup [cS ⟨#[]⟩, cS ⟨#[]⟩, cB false], []) := by
      intro hn hs
      subst hn
      refine tree.trans ?_
      have w1 : IntKind.wrap .i64 (2 * 4) = 8 := by decide
      have w2 : IntKind.wrap .i64 ((s.size : Int) - 4) = (s.size : Int) - 4 := wrapI (by omega) (by omega)
      rw [w1, w2]
      by_cases h8 : 8 ≤ s.size
      · by_cases h2 : s.size ≤ 2000
        · have e1 : Int.toNat ((s.size : Int) - 4) = s.size - 4 := by omega
          have e2 : Int.toNat 4 = 4 := rfl
          rw [e1, e2, Int.toNat_natCast]
          simp (disch := omega) only [dT, Bool.and_true, Bool.not_true]
          by_cases hx : (s.extract 0 4).toList = (s.extract (s.size - 4) s.size).toList
          · have hu : unV s 4 = true := by unfold unV; rw [dT hx]; simp (disch := omega) only [dT, Bool.and_true]
            rw [bneF hx, if_pos hu]
            rfl
          · have hu : ¬ unV s 4 = true := by unfold unV; rw [dF hx, Bool.and_false]; decide
            rw [bneT hx, if_neg hu]
            rfl
        · have hu : ¬ unV s 4 = true := by unfold unV; rw [dF h2]; simp
          rw [if_neg hu, dF (show ¬ (s.size : Int) ≤ 2000 by omega), Bool.and_false]
          rfl
      · have hu : ¬ unV s 4 = true := by unfold unV; rw [dF (show ¬ 2 * 4 ≤ s.size by omega)]; simp
        rw [if_neg hu, dF (show ¬ (8 : Int) ≤ (s.size : Int) by omega)]
        rfl
    rcases pick2 h with ⟨hc, he⟩ | ⟨hn, hc, he⟩
    · cases he
      obtain ⟨hc, k2⟩ := andE hc
      obtain ⟨k0, k1⟩ := andE hc
      exact ⟨noLoop (by kernel_rfl), (main (eq_of_beq k0) (of_decide_eq_true k1)).trans (if_pos k2)⟩
    · cases he
      obtain ⟨k0, k1⟩ := andE hc
      have hu : ¬ unV s 4 = true := fun hu => by rw [k0, k1, hu] at hn; cases hn
      exact ⟨noLoop (by kernel_rfl), (main (eq_of_beq k0) (of_decide_eq_true k1)).trans (if_neg hu)⟩
  · cases h
theorem ok_SUn : EntryOk Try.prog 20 E_Un := entry_of mix ok_byb1 (lp := []) (LO := LO0) ⟨Try.func20, by kernel_rfl, by kernel_rfl⟩ (by kernel_rfl) fun ivs res bxs h => by
  unfold E_Un at h
  split at h
  · rename_i s n
    have tree := q_SUn_eq s n
    have main : n = 4 → s.size ≤ 2000000 → q_SUn brC s n = if unV s 4 = true then some (.tup [cS (s.extract 0 4), cS (s.extract 4 (s.size - 4)), cB true], []) else some (.tup [cS ⟨#[]⟩, cS ⟨#[]⟩, cB false], []) := by
      intro hn hs
      subst hn
      refine tree.trans ?_
      have w1 : IntKind.wrap .i64 (2 * 4) = 8 := by decide
      have w2 : IntKind.wrap .i64 ((s.size : Int) - 4) = (s.size : Int) - 4 := wrapI (by omega) (by omega)
      rw [w1, w2]
      by_cases h2 : s.size ≤ 2000
      · rw [dF (show ¬ (s.size : Int) > 2000 by omega)]
        by_cases h8 : 8 ≤ s.size
        · have e1 : Int.toNat ((s.size : Int) - 4) = s.size - 4 := by omega
          have e2 : Int.toNat 4 = 4 := rfl
          rw [e1, e2, Int.toNat_natCast, dF (show ¬ (8 : Int) > (s.size : Int) by omega)]
          simp (disch := omega) only [dT, Bool.and_true, Bool.not_true]
          by_cases hx : (s.extract 0 4).toList = (s.extract (s.size - 4) s.size).toList
          · have hu : unV s 4 = true := by unfold unV; rw [dT hx]; simp (disch := omega) only [dT, Bool.and_true]
            rw [bneF hx, if_pos hu]
            rfl
          · have hu : ¬ unV s 4 = true := by unfold unV; rw [dF hx, Bool.and_false]; decide
            rw [bneT hx, if_neg hu]
            rfl
        · have hu : ¬ unV s 4 = true := by unfold unV; rw [dF (show ¬ 2 * 4 ≤ s.size by omega)]; simp
          rw [if_neg hu, dT (show (8 : Int) > (s.size : Int) by omega)]
          rfl
      · have hu : ¬ unV s 4 = true := by unfold unV; rw [dF h2]; simp
        rw [if_neg hu, dT (show (s.size : Int) > 2000 by omega)]
        rfl
    rcases pick2 h with ⟨hc, he⟩ | ⟨hn, hc, he⟩
    · cases he
      obtain ⟨hc, k2⟩ := andE hc
      obtain ⟨k0, k1⟩ := andE hc
      exact ⟨noLoop (by kernel_rfl), (main (eq_of_beq k0) (of_decide_eq_true k1)).trans (if_pos k2)⟩
    · cases he
      obtain ⟨k0, k1⟩ := andE hc
      have hu : ¬ unV s 4 = true := fun hu => by rw [k0, k1, hu] at hn; cases hn
      exact ⟨noLoop (by kernel_rfl), (main (eq_of_beq k0) (of_decide_eq_true k1)).trans (if_neg hu)⟩
  · cases h
theorem rep_zero (k : Nat) : Lib.repeatL [(0 : UInt8)] k = List.replicate k 0 := by
  induction k with
  | zero => rfl
  | succ k ih => show [0] ++ Lib.repeatL [0] k = _; rw [ih]; rfl
theorem ok_Rep : EntryOk Try.prog 67 E_Rep := ⟨⟨_, Try.func67, by kernel_rfl, by kernel_rfl⟩, fun ivs res bxs h => by
  unfold E_Rep at h
  split at h
  · rename_i s c
    obtain ⟨hc, he⟩ := pick1 h
    cases he
    simp only [Bool.and_eq_true, decide_eq_true_eq] at hc
    obtain ⟨⟨h1, h2⟩, h3⟩ := hc
    obtain ⟨k, rfl⟩ := Int.eq_ofNat_of_zero_le h1
    refine contract_flat (ps := [.str s, .int .i64 k]) (v := .string (zerV k)) rfl fun w com vals hv _ => ?_
    obtain ⟨v, vs, rfl, hv1, hn⟩ := hv.of_cons
    obtain ⟨v2, vs2, rfl, hv2, hn2⟩ := hn.of_cons
    rw [hn2.of_nil]
    cases hv1
    cases hv2
    have hz : s.size = 1 := by rw [← len_toList, h3]; rfl
    refine (Try.strings_Repeat s k w (by omega) (by rw [hz]; omega)).mono ?_
    rintro e w1 ⟨rfl, hb⟩
    refine ⟨?_, hb⟩
    rw [h3, rep_zero]
    rfl
  · cases h⟩
theorem ok_byb2 : EntriesOk Try.prog byb2 := ⟨ok_Rep, ok_byb1⟩
theorem max0 {n : Int} (h : 0 ≤ n) : (bif bif true then decide (n > 0) else decide (n < 0) then n else 0) = n := by
  by_cases h0 : n > 0
  · rw [dT h0]; rfl
  · rw [dF h0]; show (0 : Int) = n; omega
theorem ok_zeros : EntryOk Try.prog 60 E_zeros := entry_of mix ok_byb2 (lp := []) (LO := LO0) ⟨Try.func60, by kernel_rfl, by kernel_rfl⟩ (by kernel_rfl) fun ivs res bxs h => by
  unfold E_zeros at h
  split at h
  · rename_i n
    obtain ⟨hc, he⟩ := pick1 h
    cases he
    obtain ⟨k0, k1⟩ := andE hc
    refine ⟨noLoop (by kernel_rfl), (q_zeros_eq n).trans ?_⟩
    rw [max0 (of_decide_eq_true k0), k0, k1, dT rfl]
    rfl
  · cases h
theorem ok_byb3 : EntriesOk Try.prog byb3 := ⟨ok_zeros, ok_byb1⟩
theorem zer_size (n : Nat) : (zerV n).size = n := by rw [← len_toList]; exact List.length_replicate
theorem bytesOf_rep : ∀ c : Nat, bytesOf (List.flatten (List.replicate c [PV.int IntKind.u8 0])) = some (List.replicate c 0)
  | 0 => rfl
  | c + 1 => by
    rw [List.replicate_succ, List.flatten_cons]
    show (bytesOf (List.flatten (List.replicate c [PV.int IntKind.u8 0]))).bind (fun r => some (UInt8.ofNat (Int.toNat 0) :: r)) = _
    rw [bytesOf_rep c]
    rfl
theorem rep_len (x : PV) : ∀ c : Nat, (List.flatten (List.replicate c [x])).length = c
  | 0 => rfl
  | c + 1 => by
    rw [List.replicate_succ, List.flatten_cons, List.length_append, rep_len x c, List.length_singleton]
    omega
theorem ok_St : EntryOk Try.prog 49 E_St := entry_of mix ok_byb3 (lp := []) (LO := LO0) ⟨Try.func49, by kernel_rfl, by kernel_rfl⟩ (by kernel_rfl) fun ivs res bxs h => by
  unfold E_St at h
  split at h
  · rename_i s t n
    obtain ⟨hc, he⟩ := pick1 h
    cases he
    obtain ⟨hc, k3⟩ := andE hc
    obtain ⟨hc, k2⟩ := andE hc
    obtain ⟨k0, k1⟩ := andE hc
    have h0 := of_decide_eq_true k0
    have h1 := of_decide_eq_true k1
    have h2 := holds_inv k2
    have h3 := holds_inv k3
    obtain ⟨n, rfl⟩ := Int.eq_ofNat_of_zero_le h0
    refine ⟨noLoop (by kernel_rfl), (q_St_eq s t n).trans ?_⟩
    rw [hidS_eq]
    have w1 : IntKind.wrap .i64 (2 * (s.size : Int)) = 2 * (s.size : Int) := wrapI (by omega) (by omega)
    have w2 : IntKind.wrap .i64 (2 * (s.size : Int) + (t.size : Int)) = 2 * (s.size : Int) + (t.size : Int) := wrapI (by omega) (by omega)
    have w3 : IntKind.wrap .i64 ((n : Int) - (2 * (s.size : Int) + (t.size : Int))) = (n : Int) - (2 * (s.size : Int) + (t.size : Int)) := wrapI (by omega) (by omega)
    rw [max0 h0, w1, w2, w3, Int.toNat_natCast]
    unfold stV
    by_cases g : 1 ≤ s.size ∧ s.size ≤ 16 ∧ n ≤ 2000 ∧ 2 * s.size + t.size ≤ n
    · obtain ⟨g1, g2, g3, g4⟩ := g
      rw [if_pos ⟨g1, g2, g3, g4⟩]
      have e1 : Int.toNat ((n : Int) - (2 * (s.size : Int) + (t.size : Int))) = n - 2 * s.size - t.size := by omega
      have z1 := zer_size (n - 2 * s.size - t.size)
      rw [e1, dF (show ¬ (n : Int) > 2000 by omega), dF (show ¬ (n : Int) - (2 * (s.size : Int) + (t.size : Int)) < 0 by omega)]
      rw [dT (show (1 : Int) ≤ (s.size : Int) by omega), dT (show (s.size : Int) ≤ 16 by omega), dT (show s.size + t.size ≤ 9223372036854775807 by omega)]
      rw [dT (show (0 : Int) ≤ (n : Int) - (2 * (s.size : Int) + (t.size : Int)) by omega), dT (show (n : Int) - (2 * (s.size : Int) + (t.size : Int)) ≤ 100000 by omega)]
      rw [dT (show (s ++ t).size + (zerV (n - 2 * s.size - t.size)).size ≤ 9223372036854775807 by rw [z1, ByteArray.size_append]; omega)]
      rw [dT (show (s ++ t ++ zerV (n - 2 * s.size - t.size)).size + s.size ≤ 9223372036854775807 by rw [ByteArray.size_append, z1, ByteArray.size_append]; omega)]
      rfl
    · rw [if_neg g]
      by_cases g1 : 1 ≤ s.size ∧ s.size ≤ 16
      · obtain ⟨g1, g2⟩ := g1
        rw [dT (show (1 : Int) ≤ (s.size : Int) by omega), dT (show (s.size : Int) ≤ 16 by omega)]
        by_cases g3 : n ≤ 2000
        · rw [dF (show ¬ (n : Int) > 2000 by omega), dT (show (n : Int) - (2 * (s.size : Int) + (t.size : Int)) < 0 by omega)]
          rfl
        · rw [dT (show (n : Int) > 2000 by omega)]
          rfl
      · have : (decide (1 ≤ (s.size : Int)) && decide ((s.size : Int) ≤ 16)) = false := by
          by_cases g2 : 1 ≤ s.size
          · rw [dF (show ¬ (s.size : Int) ≤ 16 by omega), Bool.and_false]
          · rw [dF (show ¬ (1 : Int) ≤ (s.size : Int) by omega), Bool.false_and]
        rw [this]
        rfl
  · cases h
theorem ok_SSt : EntryOk Try.prog 44 E_St := entry_of mix ok_byb3 (lp := []) (LO := LO0) ⟨Try.func44, by kernel_rfl, by kernel_rfl⟩ (by kernel_rfl) fun ivs res bxs h => by
  unfold E_St at h
  split at h
  · rename_i s t n
    obtain ⟨hc, he⟩ := pick1 h
    cases he
    obtain ⟨hc, k3⟩ := andE hc
    obtain ⟨hc, k2⟩ := andE hc
    obtain ⟨k0, k1⟩ := andE hc
    have h0 := of_decide_eq_true k0
    have h1 := of_decide_eq_true k1
    have h2 := holds_inv k2
    have h3 := holds_inv k3
    obtain ⟨n, rfl⟩ := Int.eq_ofNat_of_zero_le h0
    refine ⟨noLoop (by kernel_rfl), (q_SSt_eq s t n).trans ?_⟩
    rw [hidS_eq]
    have w1 : IntKind.wrap .i64 (2 * (s.size : Int)) = 2 * (s.size : Int) := wrapI (by omega) (by omega)
    have w2 : IntKind.wrap .i64 (2 * (s.size : Int) + (t.size : Int)) = 2 * (s.size : Int) + (t.size : Int) := wrapI (by omega) (by omega)
    have w3 : IntKind.wrap .i64 ((n : Int) - 2 * (s.size : Int)) = (n : Int) - 2 * (s.size : Int) := wrapI (by omega) (by omega)
    have w4 : IntKind.wrap .i64 ((n : Int) - 2 * (s.size : Int) - (t.size : Int)) = (n : Int) - 2 * (s.size : Int) - (t.size : Int) := wrapI (by omega) (by omega)
    rw [w1, w2, w3, w4, Int.toNat_natCast]
    unfold stV
    by_cases g : 1 ≤ s.size ∧ s.size ≤ 16 ∧ n ≤ 2000 ∧ 2 * s.size + t.size ≤ n
    · obtain ⟨g1, g2, g3, g4⟩ := g
      rw [if_pos ⟨g1, g2, g3, g4⟩]
      have e1 : Int.toNat ((n : Int) - 2 * (s.size : Int) - (t.size : Int)) = n - 2 * s.size - t.size := by omega
      have e2 : ({ data := List.toArray (Option.getD (some (List.replicate (n - 2 * s.size - t.size) (0 : UInt8))) []) } : ByteArray) = zerV (n - 2 * s.size - t.size) := rfl
      have z1 := zer_size (n - 2 * s.size - t.size)
      rw [e1, bytesOf_rep, rep_len, e2, dF (show ¬ (s.size : Int) < 1 by omega), dF (show ¬ (s.size : Int) > 16 by omega), dF (show ¬ (n : Int) > 2000 by omega), dF (show ¬ 2 * (s.size : Int) + (t.size : Int) > (n : Int) by omega)]
      rw [dT (show s.size + t.size ≤ 9223372036854775807 by omega)]
      rw [dT (show (0 : Int) ≤ (n : Int) - 2 * (s.size : Int) - (t.size : Int) by omega), dT (show (n : Int) - 2 * (s.size : Int) - (t.size : Int) = (n : Int) - 2 * (s.size : Int) - (t.size : Int) from rfl), dT (show (n : Int) - 2 * (s.size : Int) - (t.size : Int) ≤ 140737488351232 by omega), dT (show ((n : Int) - 2 * (s.size : Int) - (t.size : Int)) * 1 ≤ 281474976710656 by omega)]
      rw [dT (show (s ++ t).size + (zerV (n - 2 * s.size - t.size)).size ≤ 9223372036854775807 by rw [z1, ByteArray.size_append]; omega)]
      rw [dT (show (s ++ t ++ zerV (n - 2 * s.size - t.size)).size + s.size ≤ 9223372036854775807 by rw [ByteArray.size_append, z1, ByteArray.size_append]; omega)]
      rw [show Nat.beq (n - 2 * s.size - t.size) (n - 2 * s.size - t.size) = true from Nat.beq_refl _]
      rfl
    · rw [if_neg g]
      by_cases g1 : 1 ≤ s.size
      · rw [dF (show ¬ (s.size : Int) < 1 by omega)]
        by_cases g2 : s.size ≤ 16
        · rw [dF (show ¬ (s.size : Int) > 16 by omega)]
          by_cases g3 : n ≤ 2000
          · rw [dF (show ¬ (n : Int) > 2000 by omega), dT (show 2 * (s.size : Int) + (t.size : Int) > (n : Int) by omega)]
            rfl
          · rw [dT (show (n : Int) > 2000 by omega)]
            rfl
        · rw [dT (show (s.size : Int) > 16 by omega)]
          rfl
      · rw [dT (show (s.size : Int) < 1 by omega)]
        rfl
  · cases h
end Go.Proofs.Ytdegegajoccdjaa
