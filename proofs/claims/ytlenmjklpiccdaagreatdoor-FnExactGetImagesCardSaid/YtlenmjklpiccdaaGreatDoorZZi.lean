import Derived.Test.YtlenmjklpiccdaaGreatDoorZZh
import Derived.Test.YtlenmjklpiccdaaGreatDoorZZg
import Derived.Test.YtlenmjklpiccdaaGreatDoorZZe
import Derived.Lib.Builder
import Derived.Lib.UnsafeStr
import Derived.Test.YtlenmjklpiccdaaGreatDoorZZf
namespace Go.Proofs.YtlenmjklpiccdaaGreatDoor
section
open Go.RowKit
set_option linter.unusedVariables false
set_option linter.unusedSimpArgs false
set_option maxRecDepth 100000
theorem ok_l01Canon : EntryOk Tryz.prog 78 E_l01Canon := ⟨⟨_, Tryz.func78, by kernel_rfl, by kernel_rfl⟩, fun ivs res bxs h => by
  unfold E_l01Canon at h
  split at h
  · rename_i s
    obtain ⟨hc, he⟩ := pick1 h
    cases he
    have hc := of_decide_eq_true hc
    refine contract_flat (ps := [.str s]) (v := .bool (canonB s.data.toList)) rfl fun w com vals hv _ => ?_
    obtain ⟨v, vs, rfl, hv1, hn⟩ := hv.of_cons
    rw [hn.of_nil]
    cases hv1
    exact l01Canon_any s w (by omega)
  · cases h⟩
theorem ok_l01Of : EntryOk Tryz.prog 79 E_l01Of := ⟨⟨_, Tryz.func79, by kernel_rfl, by kernel_rfl⟩, fun ivs res bxs h => by
  unfold E_l01Of at h
  split at h
  · rename_i s
    obtain ⟨hc, he⟩ := pick1 h
    cases he
    have hc := of_decide_eq_true hc
    refine contract_flat (ps := [.str s]) (v := .int .i64 (numOf s.data.toList)) rfl fun w com vals hv _ => ?_
    obtain ⟨v, vs, rfl, hv1, hn⟩ := hv.of_cons
    rw [hn.of_nil]
    cases hv1
    refine (l01Of_any s w (by omega)).mono ?_
    rintro e w' ⟨rfl, rfl⟩
    exact ⟨rfl, Below.refl _ _⟩
  · cases h⟩
theorem ok_kbb0 : EntriesOk Tryz.prog kbb0 := ⟨ok_l01Canon, ok_l01Of, trivial⟩
theorem keyH_eq (n : Nat) : keyH n = 1 :: beK 8 n := hidL_eq _
theorem u8m (n : Nat) : UInt8.ofNat (n % 256) = UInt8.ofNat n := by
  apply UInt8.toNat_inj.1
  simp
theorem shr_byte (n k : Nat) (hk : k ≤ 7) : IntKind.wrap .u8 (Int.fdiv (n : Int) (2 ^ min (Int.toNat (IntKind.wrap .i64 (8 * (k : Int)))) 64)) = (((UInt8.ofNat (n / 256 ^ k % 256)).toNat : Nat) : Int) := by
  have e : min (Int.toNat (IntKind.wrap .i64 (8 * (k : Int)))) 64 = 8 * k := by rw [wrapI (by omega) (by omega)]; omega
  have p : (2 : Int) ^ (8 * k) = ((256 ^ k : Nat) : Int) := by
    rw [show (256 : Nat) = 2 ^ 8 from rfl, ← Nat.pow_mul]
    push_cast
    rfl
  rw [e, p, u8m, Int.fdiv_eq_ediv_of_nonneg _ (Int.natCast_nonneg _), ← Int.natCast_ediv, u8w]
theorem key6_loop (s : ByteArray) (n : Nat) : ∀ (k : Nat) (l : List UInt8), k ≤ 8 → l.length ≤ 10 - k → LoopsTo (rdB brC Tryz.prog kbb0 lp_key LO_key Tryz.f61 6 []) [aS s, oB 3 (pvB l), aI n, aI ((k : Int) - 1)] (.exit 0, [aS s, oB 3 (pvB (l ++ beK k n))]) := by
  intro k
  induction k with
  | zero =>
    intro l h1 h2
    refine .done _ _ ((r_key6_eq _ _ _ _).trans ?_)
    rw [dF (by omega), show beK 0 n = [] from rfl, List.append_nil]
    rfl
  | succ k ih =>
    intro l h1 h2
    have tree := r_key6_eq s l (n : Int) (((k + 1 : Nat) : Int) - 1)
    rw [show (((k + 1 : Nat) : Int) - 1) = (k : Int) by omega] at tree ⊢
    have w0 : IntKind.wrap .i64 (8 * (k : Int)) = 8 * (k : Int) := wrapI (by omega) (by omega)
    have w1 : IntKind.wrap .i64 ((k : Int) - 1) = (k : Int) - 1 := wrapI (by omega) (by omega)
    generalize hc : UInt8.ofNat (n / 256 ^ k % 256) = c
    have e0 := shr_byte n k (by omega)
    rw [hc] at e0
    have e1 : pvB l ++ [PV.int .u8 ((c.toNat : Nat) : Int)] = pvB (l ++ [c]) := (pvB_app l [c]).symm
    have e2 : (pvB l).length + 1 = (pvB (l ++ [c])).length := by rw [pvB_app, List.length_append]; rfl
    have e3 : (pvB (l ++ [c])).length = l.length + 1 := by rw [pvB_len, List.length_append]; rfl
    rw [e0, w1, e1, e2, w0] at tree
    simp (disch := omega) only [dT, Bool.and_true, show Nat.beq (List.length [PV.int IntKind.u8 ((c.toNat : Nat) : Int)]) (1 * 1) = true from rfl] at tree
    have := ih (l ++ [c]) (by omega) (by rw [List.length_append]; simp only [List.length_singleton]; omega)
    rw [List.append_assoc, show [c] ++ beK k n = beK (k + 1) n by rw [← hc]; rfl] at this
    exact .step _ _ _ tree this
theorem key12_loop (s : ByteArray) (hs : s.size ≤ 1000000) : ∀ (m i : Nat) (l : List UInt8), m + i = s.data.toList.length → l.length ≤ 2 * i + 1 → LoopsTo (rdB brC Tryz.prog kbb0 lp_key LO_key Tryz.f61 12 []) [aS s, oB 3 (pvB l), aI i] (.exit 2, [aS s, oB 3 (pvB (l ++ escS (s.data.toList.drop i)))]) := by
  have hl : s.size = s.data.toList.length := size_len s
  intro m
  induction m with
  | zero =>
    intro i l h1 h2
    refine .done _ _ ((r_key12_eq _ _ _).trans ?_)
    rw [dF (by omega), List.drop_eq_nil_of_le (by omega), show escS [] = [] from rfl, List.append_nil]
    rfl
  | succ m ih =>
    intro i l h1 h2
    have hi : i < s.data.toList.length := by omega
    have tree := r_key12_eq s l i
    have hg : s.data.toList.getD i 0 = s.data.toList[i] := by rw [List.getD_eq_getElem?_getD, List.getElem?_eq_getElem hi]; rfl
    have hd : s.data.toList.drop i = s.data.toList[i] :: s.data.toList.drop (i + 1) := List.drop_eq_getElem_cons hi
    generalize hc : s.data.toList[i] = c at hg hd
    have w1 : IntKind.wrap .i64 ((i : Int) + 1) = ((i + 1 : Nat) : Int) := by rw [wrapI (by omega) (by omega)]; omega
    have e1 : pvB l ++ [PV.int .u8 ((c.toNat : Nat) : Int)] = pvB (l ++ [c]) := (pvB_app l [c]).symm
    have e2 : (pvB l).length + 1 = (pvB (l ++ [c])).length := by rw [pvB_app, List.length_append]; rfl
    have e3 : (pvB (l ++ [c])).length = l.length + 1 := by rw [pvB_len, List.length_append]; rfl
    have e4 : pvB (l ++ [c]) ++ [PV.int .u8 255] = pvB (l ++ [c] ++ [255]) := (pvB_app (l ++ [c]) [255]).symm
    have e5 : (pvB (l ++ [c])).length + 1 = (pvB (l ++ [c] ++ [255])).length := by rw [pvB_app (l ++ [c]), List.length_append]; rfl
    rw [Int.toNat_natCast, hg, w1, e1, e2, e4, e5] at tree
    have e6 : (pvB (l ++ [c] ++ [255])).length = l.length + 2 := by rw [← e5, e3]
    simp (disch := omega) only [dT, Bool.and_true, Bool.true_and, Nat.beq_refl, show Nat.beq (List.length [PV.int IntKind.u8 ((c.toNat : Nat) : Int)]) (1 * 1) = true from rfl] at tree
    rw [hd]
    unfold escS
    by_cases h0 : c = 0
    · rw [if_pos h0]
      rw [show (((c.toNat : Nat) : Int) == 0) = true by rw [h0]; rfl] at tree
      have := ih (i + 1) (l ++ [c] ++ [255]) (by omega) (by simp only [List.length_append, List.length_singleton]; omega)
      rw [show l ++ [c] ++ [255] ++ escS (List.drop (i + 1) s.data.toList) = l ++ 0 :: 255 :: escS (List.drop (i + 1) s.data.toList) by rw [h0]; simp] at this
      exact .step _ _ _ tree this
    · rw [if_neg h0]
      rw [show (((c.toNat : Nat) : Int) == 0) = false from beq_eq_false_iff_ne.2 fun e => h0 (UInt8.toNat_inj.1 (by show c.toNat = 0; omega))] at tree
      have := ih (i + 1) (l ++ [c]) (by omega) (by simp only [List.length_append, List.length_singleton]; omega)
      rw [show l ++ [c] ++ escS (List.drop (i + 1) s.data.toList) = l ++ c :: escS (List.drop (i + 1) s.data.toList) by simp] at this
      exact .step _ _ _ tree this
theorem ok_key : EntryOk Tryz.prog 61 E_key := entry_of mix ok_kbb0 (lp := lp_key) (LO := LO_key) ⟨Tryz.func61, by kernel_rfl, by kernel_rfl⟩ (by kernel_rfl) fun ivs res bxs h => by
  unfold E_key at h
  split at h
  · rename_i s
    obtain ⟨hc, he⟩ := pick1 h
    cases he
    have hs := of_decide_eq_true hc
    have hl : s.size = s.data.toList.length := size_len s
    refine ⟨manyLoops [6, 12] (by kernel_rfl) (fun k hk => by
      simp only [List.mem_cons, List.not_mem_nil, or_false] at hk
      rcases hk with rfl | rfl <;> kernel_rfl) fun k hk => ?_, (q_key_eq s).trans ?_⟩
    · simp only [List.mem_cons, List.not_mem_nil, or_false] at hk
      rcases hk with rfl | rfl
      · refine ⟨noLoop (by kernel_rfl), ?_⟩
        intro ls e ls' hl
        replace hl : pickA (LO_key_6 ls) = some (e, ls') := hl
        unfold LO_key_6 at hl
        split at hl
        · rename_i s x e c l n k
          obtain ⟨hc, he⟩ := pick1 hl
          cases he
          obtain ⟨hc, g6⟩ := andE hc
          obtain ⟨hc, g5⟩ := andE hc
          obtain ⟨hc, g4⟩ := andE hc
          obtain ⟨hc, g3⟩ := andE hc
          obtain ⟨hc, g2⟩ := andE hc
          obtain ⟨g0, g1⟩ := andE hc
          have g0 := of_decide_eq_true g0
          rw [Nat.eq_of_beq_eq_true g2, Nat.eq_of_beq_eq_true g3, Nat.eq_of_beq_eq_true g4, holds_inv g5, eq_of_beq g6, keyH_eq]
          have := key6_loop s n.toNat 8 [1] (by omega) (by decide)
          rw [show ((n.toNat : Nat) : Int) = n by omega] at this
          exact this
        · cases hl
      · refine ⟨noLoop (by kernel_rfl), ?_⟩
        intro ls e ls' hl
        replace hl : pickA (LO_key_12 ls) = some (e, ls') := hl
        unfold LO_key_12 at hl
        split at hl
        · rename_i s x e c l i
          obtain ⟨hc, he⟩ := pick1 hl
          cases he
          obtain ⟨hc, g6⟩ := andE hc
          obtain ⟨hc, g5⟩ := andE hc
          obtain ⟨hc, g4⟩ := andE hc
          obtain ⟨hc, g3⟩ := andE hc
          obtain ⟨g0, g2⟩ := andE hc
          rw [Nat.eq_of_beq_eq_true g2, Nat.eq_of_beq_eq_true g3, Nat.eq_of_beq_eq_true g4, holds_inv g5, eq_of_beq g6, hidL_eq]
          exact key12_loop s (of_decide_eq_true g0) s.data.toList.length 0 [2] rfl (by decide)
        · cases hl
    · have hr := numOf_range s.data.toList
      have w1 : IntKind.wrap .i64 (numOf s.data.toList + 1000000000000000000) = numOf s.data.toList + 1000000000000000000 := wrapI (by omega) (by omega)
      have f1 : holds ([PV.int IntKind.u8 1] = [PV.int IntKind.u8 ((1 : Nat) : Int)]) = true := holds_mk rfl
      have f2 : holds ([PV.int IntKind.u8 2] = [PV.int IntKind.u8 ((2 : Nat) : Int)]) = true := holds_mk rfl
      have f3 : holds (numOf s.data.toList + 1000000000000000000 ≤ 2000000000000000000) = true := holds_mk (by omega)
      have eb : pvB (hidL (2 :: escS s.data.toList)) ++ [PV.int IntKind.u8 0, PV.int IntKind.u8 0] = pvB (2 :: escS s.data.toList ++ [0, 0]) := by rw [hidL_eq]; exact (pvB_app _ [0, 0]).symm
      have el : (pvB (hidL (2 :: escS s.data.toList))).length + 2 = (pvB (2 :: escS s.data.toList ++ [0, 0])).length := by rw [hidL_eq, pvB_len, pvB_len, List.length_append]; rfl
      have es := escS_len s.data.toList
      have el2 : (pvB (2 :: escS s.data.toList ++ [0, 0])).length = (escS s.data.toList).length + 3 := by rw [pvB_len, List.length_append]; rfl
      rw [w1, f3, keyH_eq, eb, el]
      cases hcn : canonB s.data.toList with
      | true =>
        simp (disch := omega) only [dT, f1, Bool.and_true, Bool.true_and, Nat.beq_refl, beq_self_eq_true, bytesOf_pvB, Option.isSome_some, Option.getD_some, show holds True = true from holds_mk trivial]
        have : encS s.data.toList = 1 :: beK 8 (numOf s.data.toList + 1000000000000000000).toNat := by unfold encS; rw [if_pos hcn]
        rw [this]
        rfl
      | false =>
        simp (disch := omega) only [dT, f2, Bool.and_true, Bool.true_and, Nat.beq_refl, beq_self_eq_true, bytesOf_pvB, Option.isSome_some, Option.getD_some, show holds True = true from holds_mk trivial]
        have : encS s.data.toList = 2 :: (escS s.data.toList ++ [0, 0]) := by unfold encS; rw [if_neg (by rw [hcn]; exact Bool.false_ne_true)]
        rw [this]
        rfl
  · cases h
theorem ok_kbb1 : EntriesOk Tryz.prog kbb1 := ⟨ok_key, trivial⟩
theorem bs_appK (a b : List UInt8) : bs a ++ bs b = bs (a ++ b) := by
  apply ByteArray.ext
  apply Array.ext'
  show (bs a ++ bs b).data.toList = _
  rw [ByteArray.data_append, Array.toList_append, bs_data, bs_data]
  exact (bs_data _).symm
theorem put_loop (xs : List ByteArray) (h4 : xs.length ≤ 4) (h24 : ∀ s ∈ xs, s.size ≤ 24) : ∀ (m i : Nat), m + i = xs.length → LoopsTo (rdB brC Tryz.prog kbb1 lp_put LO_put Tryz.f40 3 []) [aP (pL xs), aS (bs (encL (xs.take i))), aI i] (.exit 0, [aP (pL xs), aS (bs (encL xs))]) := by
  intro m
  induction m with
  | zero =>
    intro i hm
    refine .done _ _ ((r_put_eq xs _ _).trans ?_)
    rw [dF (by omega), List.take_of_length_le (by omega)]
    rfl
  | succ m ih =>
    intro i hm
    have hi : i < xs.length := by omega
    have hz := h24 _ (List.getElem_mem hi)
    have tree := r_put_eq xs (bs (encL (xs.take i))) i
    have ih' := ih (i + 1) (by omega)
    have e1 := encL_len (xs.take i) fun s hs => h24 s (List.mem_of_mem_take hs)
    rw [List.length_take] at e1
    have e2 := encS_len xs[i].data.toList
    rw [← size_len] at e2
    have e3 : (bs (encL (xs.take i))).size = (encL (xs.take i)).length := bs_len _
    have e4 : (bs (encS xs[i].data.toList)).size = (encS xs[i].data.toList).length := bs_len _
    have e5 : bs (encL (xs.take i)) ++ bs (encS xs[i].data.toList) = bs (encL (xs.take (i + 1))) := by
      rw [bs_appK, List.take_succ_eq_append_getElem hi, encL_app]
      congr 2
      show _ = encS _ ++ []
      rw [List.append_nil]
    simp (disch := omega) only [dT, Int.toNat_natCast, drop_strs xs i hi, List.length_cons, List.headD_cons, PV.isStr, PV.asStr, blt0, wrap1, e5, Bool.and_true] at tree
    exact .step _ _ _ tree ih'
theorem size_zero {t : ByteArray} (h : t.size = 0) : t = ⟨#[]⟩ := by
  have : t.data.toList = [] := List.length_eq_zero_iff.1 (by rw [← size_len]; exact h)
  rw [← bs_self t, this]
  rfl
theorem ok_put : EntryOk Tryz.prog 40 E_put := entry_of mix ok_kbb1 (lp := lp_put) (LO := LO_put) ⟨Tryz.func40, by kernel_rfl, by kernel_rfl⟩ (by kernel_rfl) fun ivs res bxs h => by
  unfold E_put at h
  split at h
  · rename_i p
    obtain ⟨hc, he⟩ := pick1 h
    cases he
    obtain ⟨k0, k1⟩ := andE hc
    obtain ⟨xs, rfl, hx⟩ := isL_inv k0
    have ea : asL (pL xs) = xs := asL_mk xs
    rw [ea] at k1 ⊢
    refine ⟨oneLoop 3 (by kernel_rfl) (by kernel_rfl) (by kernel_rfl) ?_, (q_put_eq xs).trans ?_⟩
    · intro ls e ls' hl
      replace hl : pickA (LO_put_3 ls) = some (e, ls') := hl
      unfold LO_put_3 at hl
      split at hl
      · rename_i p t i
        obtain ⟨hc, he⟩ := pick1 hl
        cases he
        obtain ⟨hc, g3⟩ := andE hc
        obtain ⟨hc, g2⟩ := andE hc
        obtain ⟨g0, g1⟩ := andE hc
        obtain ⟨ys, rfl, hy⟩ := isL_inv g0
        have ey : asL (pL ys) = ys := asL_mk ys
        rw [ey] at g1 ⊢
        obtain ⟨hy4, hy24⟩ := subsB_inv g1
        rw [size_zero (Nat.eq_of_beq_eq_true g2), eq_of_beq g3]
        exact put_loop ys hy4 hy24 ys.length 0 rfl
      · cases hl
    · have e1 : isL (pL xs) = true := isL_mk hx
      rw [ea, e1, k1]
      rfl
  · cases h
theorem ok_kbb2 : EntriesOk Tryz.prog kbb2 := ⟨ok_put, ok_l02Subs, trivial⟩
theorem ok_SPutSubs : EntryOk Tryz.prog 44 E_SPutSubs := entry_of mix ok_kbb2 (lp := []) (LO := LO0) ⟨Tryz.func44, by kernel_rfl, by kernel_rfl⟩ (by kernel_rfl) fun ivs res bxs h => by
  unfold E_SPutSubs at h
  split at h
  · rename_i p
    obtain ⟨hc, he⟩ := pick1 h
    cases he
    obtain ⟨xs, rfl, hx⟩ := isL_inv hc
    have ea : asL (pL xs) = xs := asL_mk xs
    rw [ea]
    have e1 := isL_mk hx
    have e2 := asL_mk xs
    refine ⟨noLoop (by kernel_rfl), (q_SPutSubs_eq xs).trans ?_⟩
    unfold putL
    cases hB : subsB xs with
    | true =>
      simp only [isL, e1, asL_mk, hB, Bool.and_true, if_true]
      rfl
    | false =>
      simp only [isL, e1, asL_mk, hB, Bool.and_true, Bool.false_eq_true, if_false]
      rfl
  · cases h
theorem or8w (m b : Nat) (hb : b < 256) (hm : m < 72057594037927936) : bits .or .i64 (IntKind.wrap .i64 (((m * 256 : Nat) : Int))) ((b : Nat) : Int) = IntKind.wrap .i64 ((m * 256 + b : Nat) : Int) := by
  have h1 : (BitVec.ofInt 64 (IntKind.wrap .i64 ((m * 256 : Nat) : Int))).toNat = m * 256 := by
    rw [BitVec.toNat_ofInt, IntKind.wrap_i64]
    omega
  have h2 : (BitVec.ofInt 64 (b : Int)).toNat = b := by rw [BitVec.ofInt_natCast, BitVec.toNat_ofNat]; exact Nat.mod_eq_of_lt (by omega)
  show IntKind.i64.wrap ((BitVec.ofInt 64 (IntKind.wrap .i64 ((m * 256 : Nat) : Int)) ||| BitVec.ofInt 64 (b : Int)).toNat : Int) = _
  have h3 := Nat.two_pow_add_eq_or_of_lt (i := 8) (b := b) (by omega) m
  rw [BitVec.toNat_or, h1, h2, Nat.mul_comm m 256, show (256 : Nat) * m ||| b = 256 * m + b from h3.symm]
theorem l02Num_loop (s : ByteArray) (hs : s.data.toList.length = 8) : ∀ (m i : Nat), m + i = 8 → LoopsTo (rdB brC Tryz.prog [] lp_l02Num LO_l02Num Tryz.f57 3 []) [aS s, aI (beW (s.data.toList.take i)), aI i] (.exit 0, [aS s, aI (beW s.data.toList)]) := by
  have hl : s.size = s.data.toList.length := size_len s
  intro m
  induction m with
  | zero =>
    intro i hm
    refine .done _ _ ((r_l02Num_eq s _ _).trans ?_)
    rw [dF (by omega), List.take_of_length_le (by omega)]
    rfl
  | succ m ih =>
    intro i hm
    have ih' := ih (i + 1) (by omega)
    have hi : i < s.data.toList.length := by omega
    have tree := r_l02Num_eq s (beW (s.data.toList.take i)) i
    have hb := beV_lt (s.data.toList.take i) i (by rw [List.length_take]; omega)
    have hp : 256 ^ i ≤ 256 ^ 7 := Nat.pow_le_pow_right (by decide) (by omega)
    have big : (256 : Nat) ^ 7 = 72057594037927936 := by decide
    have hc := UInt8.toNat_lt s.data.toList[i]
    have hg : s.data.toList.getD i 0 = s.data.toList[i] := by rw [List.getD_eq_getElem?_getD, List.getElem?_eq_getElem hi]; rfl
    have e1 : beW (s.data.toList.take i) = ((beV (s.data.toList.take i) : Nat) : Int) := wrapI (by omega) (by omega)
    have e2 : ((beV (s.data.toList.take i) : Nat) : Int) * 2 ^ 8 = ((beV (s.data.toList.take i) * 256 : Nat) : Int) := by
      rw [show (2 : Int) ^ 8 = 256 from rfl]
      omega
    have e3 : IntKind.wrap .i64 ((s.data.toList[i].toNat : Nat) : Int) = ((s.data.toList[i].toNat : Nat) : Int) := wrapI (by omega) (by omega)
    have e4 : bits .or .i64 (IntKind.wrap .i64 ((beV (s.data.toList.take i) * 256 : Nat) : Int)) ((s.data.toList[i].toNat : Nat) : Int) = beW (s.data.toList.take (i + 1)) := by
      rw [or8w _ _ hc (by omega), List.take_succ_eq_append_getElem hi]
      unfold beW
      rw [beV_snoc]
    rw [e1, e2, Int.toNat_natCast, hg, e3, e4] at tree
    simp (disch := omega) only [dT, wrap1, Bool.and_true] at tree
    rw [e1]
    exact .step _ _ _ tree ih'
theorem ok_l02Num : EntryOk Tryz.prog 57 E_l02Num := entry_of mix (tab := []) trivial (lp := lp_l02Num) (LO := LO_l02Num) ⟨Tryz.func57, by kernel_rfl, by kernel_rfl⟩ (by kernel_rfl) fun ivs res bxs h => by
  unfold E_l02Num at h
  split at h
  · rename_i s
    obtain ⟨hc, he⟩ := pick1 h
    cases he
    refine ⟨oneLoop 3 (by kernel_rfl) (by kernel_rfl) (by kernel_rfl) ?_, (q_l02Num_eq s).trans ?_⟩
    · intro ls e ls' hl
      replace hl : pickA (LO_l02Num_3 ls) = some (e, ls') := hl
      unfold LO_l02Num_3 at hl
      split at hl
      · rename_i s n i
        obtain ⟨hc, he⟩ := pick1 hl
        cases he
        obtain ⟨hc, g2⟩ := andE hc
        obtain ⟨g0, g1⟩ := andE hc
        rw [eq_of_beq g1, eq_of_beq g2]
        have := l02Num_loop s (by rw [← size_len]; exact of_decide_eq_true g0) 8 0 rfl
        exact this
      · cases hl
    · rw [hc]
      rfl
  · cases h
theorem ok_kbb3 : EntriesOk Tryz.prog kbb3 := ⟨ok_l02Num, ok_In, ok_l01Text, trivial⟩
noncomputable abbrev tkR0 (s : ByteArray) (l d : List UInt8) : Ex × LS := match unesc d with
  | some p => (.ret, [aS s, aS (bs (l ++ p.1)), aS (bs p.2), aB true])
  | none => if un2 d = true then (.ret, [aS s, aS ⟨#[]⟩, aS ⟨#[]⟩, aB false]) else (.exit 0, [aS s, aX, aX, aX])
theorem tk_loop (s : ByteArray) (hs : s.size ≤ 2000) : ∀ (m i : Nat) (l : List UInt8), s.size + 1 ≤ m + i → l.length ≤ i → i ≤ s.size + 1 → LoopsTo (rdB brC Tryz.prog kbb3 lp_tk LO_tk Tryz.f38 10 []) [aS s, oB 6 (pvB l), aI i] (tkR0 s l (s.data.toList.drop i)) := by
  have hl : s.size = s.data.toList.length := size_len s
  intro m
  induction m with
  | zero =>
    intro i l h1 h2 h3
    refine .done _ _ ((r_tk_eq _ _ _).trans ?_)
    have w1 : IntKind.wrap .i64 ((i : Int) + 1) = ((i + 1 : Nat) : Int) := by rw [wrapI (by omega) (by omega)]; omega
    rw [w1, dF (by omega), List.drop_eq_nil_of_le (by omega)]
    rfl
  | succ m ih =>
    intro i l h1 h2 h3
    have tree := r_tk_eq s l i
    have w1 : IntKind.wrap .i64 ((i : Int) + 1) = ((i + 1 : Nat) : Int) := by rw [wrapI (by omega) (by omega)]; omega
    have w2 : IntKind.wrap .i64 (((i + 1 : Nat) : Int) + 1) = ((i + 2 : Nat) : Int) := by rw [wrapI (by omega) (by omega)]; omega
    have w3 : IntKind.wrap .i64 ((i : Int) + 2) = ((i + 2 : Nat) : Int) := by rw [wrapI (by omega) (by omega)]; omega
    rw [w1, w2, w3] at tree
    by_cases hi : i + 1 < s.data.toList.length
    · have hg : s.data.toList.getD i 0 = s.data.toList[i]'(by omega) := by rw [List.getD_eq_getElem?_getD, List.getElem?_eq_getElem (by omega)]; rfl
      have hg1 : s.data.toList.getD (i + 1) 0 = s.data.toList[i + 1] := by rw [List.getD_eq_getElem?_getD, List.getElem?_eq_getElem hi]; rfl
      have hd : s.data.toList.drop i = s.data.toList[i]'(by omega) :: s.data.toList.drop (i + 1) := List.drop_eq_getElem_cons (by omega)
      have hd1 : s.data.toList.drop (i + 1) = s.data.toList[i + 1] :: s.data.toList.drop (i + 2) := List.drop_eq_getElem_cons hi
      generalize hc : s.data.toList[i]'(by omega) = c at hg hd
      generalize he : s.data.toList[i + 1] = e at hg1 hd1
      have hx : s.extract (i + 2) s.size = bs (s.data.toList.drop (i + 2)) := by
        rw [extract_bs, List.take_of_length_le (by rw [List.length_drop]; omega)]
      have e1 : ∀ c : UInt8, pvB l ++ [PV.int .u8 ((c.toNat : Nat) : Int)] = pvB (l ++ [c]) := fun c => (pvB_app l [c]).symm
      have e2 : ∀ c : UInt8, (pvB (l ++ [c])).length = l.length + 1 := fun c => by rw [pvB_len, List.length_append]; rfl
      have e3 : (pvB l).length = l.length := pvB_len l
      have e4 : pvB l ++ [PV.int .u8 0] = pvB (l ++ [0]) := e1 0
      have e5 : ({ data := List.toArray l } : ByteArray) = bs l := rfl
      rw [dT (show (((i + 1 : Nat) : Int) < (s.size : Int)) by omega), Int.toNat_natCast, Int.toNat_natCast, hg, hg1, e1, e4, bytesOf_pvB] at tree
      simp (disch := omega) only [dT, Int.toNat_natCast, hx, e3, Option.getD_some, Option.isSome_some, Nat.beq_refl, Bool.and_true, show Nat.beq (List.length [PV.int IntKind.u8 ((c.toNat : Nat) : Int)]) (1 * 1) = true from rfl] at tree
      by_cases h0 : c = 0
      · rw [show (((c.toNat : Nat) : Int) != 0) = false by rw [h0]; rfl] at tree
        by_cases h00 : e = 0
        · rw [show (((e.toNat : Nat) : Int) == 0) = true by rw [h00]; rfl] at tree
          have hu : unesc (s.data.toList.drop i) = some ([], s.data.toList.drop (i + 2)) := by
            rw [hd, hd1, h0, h00]
            unfold unesc
            rw [if_pos rfl, if_pos rfl]
          unfold tkR0
          rw [hu]
          dsimp only
          rw [List.append_nil]
          exact .done _ _ tree
        · rw [show (((e.toNat : Nat) : Int) == 0) = false from beq_eq_false_iff_ne.2 fun h => h00 (UInt8.toNat_inj.1 (by show e.toNat = 0; omega))] at tree
          by_cases h255 : e = 255
          · rw [show (((e.toNat : Nat) : Int) != 255) = false by rw [h255]; rfl] at tree
            have hu : unesc (s.data.toList.drop i) = (unesc (s.data.toList.drop (i + 2))).map (fun p => (0 :: p.1, p.2)) := by
              rw [hd, hd1, h0, h255]
              conv => lhs; unfold unesc
              rw [if_pos rfl, if_neg (by decide), if_pos rfl]
            have hn : un2 (s.data.toList.drop i) = un2 (s.data.toList.drop (i + 2)) := by
              rw [hd, hd1, h0, h255]
              conv => lhs; unfold un2
              rw [if_pos rfl, if_neg (by decide), if_pos rfl]
            have := ih (i + 2) (l ++ [0]) (by omega) (by rw [List.length_append]; simp only [List.length_singleton]; omega) (by omega)
            have er : tkR0 s (l ++ [0]) (s.data.toList.drop (i + 2)) = tkR0 s l (s.data.toList.drop i) := by
              unfold tkR0
              rw [hu, hn]
              cases unesc (s.data.toList.drop (i + 2)) with
              | none => rfl
              | some p =>
                dsimp only [Option.map_some]
                rw [List.append_assoc]
                rfl
            rw [← er]
            have e6 := e2 0
            rw [← e6] at tree
            exact .step _ _ _ tree this
          · rw [show (((e.toNat : Nat) : Int) != 255) = true from bne_iff_ne.2 fun h => h255 (UInt8.toNat_inj.1 (by show e.toNat = 255; omega))] at tree
            have hu : unesc (s.data.toList.drop i) = none := by
              rw [hd, hd1, h0]
              unfold unesc
              rw [if_pos rfl, if_neg h00, if_neg h255]
            have hn : un2 (s.data.toList.drop i) = true := by
              rw [hd, hd1, h0]
              unfold un2
              rw [if_pos rfl, if_neg h00, if_neg h255]
            unfold tkR0
            rw [hu, hn]
            exact .done _ _ tree
      · rw [show (((c.toNat : Nat) : Int) != 0) = true from bne_iff_ne.2 fun h => h0 (UInt8.toNat_inj.1 (by show c.toNat = 0; omega))] at tree
        have hu : unesc (s.data.toList.drop i) = (unesc (s.data.toList.drop (i + 1))).map (fun p => (c :: p.1, p.2)) := by
          rw [hd, hd1]
          conv => lhs; unfold unesc
          rw [if_neg h0]
        have hn : un2 (s.data.toList.drop i) = un2 (s.data.toList.drop (i + 1)) := by
          rw [hd, hd1]
          conv => lhs; unfold un2
          rw [if_neg h0]
        have := ih (i + 1) (l ++ [c]) (by omega) (by rw [List.length_append]; simp only [List.length_singleton]; omega) (by omega)
        have er : tkR0 s (l ++ [c]) (s.data.toList.drop (i + 1)) = tkR0 s l (s.data.toList.drop i) := by
          unfold tkR0
          rw [hu, hn]
          cases unesc (s.data.toList.drop (i + 1)) with
          | none => rfl
          | some p =>
            dsimp only [Option.map_some]
            rw [List.append_assoc]
            rfl
        rw [← er]
        have e6 := e2 c
        rw [← e6] at tree
        exact .step _ _ _ tree this
    · rw [dF (by omega)] at tree
      have hlen : (s.data.toList.drop i).length ≤ 1 := by rw [List.length_drop]; omega
      have hu : unesc (s.data.toList.drop i) = none ∧ un2 (s.data.toList.drop i) = false := by
        cases hd : s.data.toList.drop i with
        | nil => exact ⟨rfl, rfl⟩
        | cons c t =>
          rw [hd] at hlen
          have : t = [] := List.length_eq_zero_iff.1 (by rw [List.length_cons] at hlen; omega)
          subst this
          exact ⟨rfl, rfl⟩
      unfold tkR0
      rw [hu.1, hu.2]
      exact .done _ _ tree
theorem un2_gs {l : List UInt8} (h : un2 l = true) : unesc l = none := by
  induction l using un2.induct with
  | case1 => cases h
  | case2 => cases h
  | case3 r => unfold un2 at h; rw [if_pos rfl, if_pos rfl] at h; cases h
  | case4 r h0 ih =>
    unfold un2 at h
    rw [if_pos rfl, if_neg h0, if_pos rfl] at h
    unfold unesc
    rw [if_pos rfl, if_neg h0, if_pos rfl, ih h]
    rfl
  | case5 d r h0 h1 =>
    unfold unesc
    rw [if_pos rfl, if_neg h0, if_neg h1]
  | case6 c d r h0 ih =>
    unfold un2 at h
    rw [if_neg h0] at h
    unfold unesc
    rw [if_neg h0, ih h]
    rfl
theorem ok_tk : EntryOk Tryz.prog 38 E_tk := entry_of mix ok_kbb3 (lp := lp_tk) (LO := LO_tk) ⟨Tryz.func38, by kernel_rfl, by kernel_rfl⟩ (by kernel_rfl) fun ivs res bxs h => by
  unfold E_tk at h
  split at h
  · rename_i s
    obtain ⟨hc, he⟩ := pick1 h
    cases he
    obtain ⟨k0, k1⟩ := andE hc
    have h0 := of_decide_eq_true k0
    have hs := of_decide_eq_true k1
    have hl : s.size = s.data.toList.length := size_len s
    refine ⟨oneLoop 10 (by kernel_rfl) (by kernel_rfl) (by kernel_rfl) ?_, (q_tk_eq s).trans ?_⟩
    · intro ls e ls' hl
      replace hl : pickA (LO_tk_10 ls) = some (e, ls') := hl
      unfold LO_tk_10 at hl
      split at hl
      · rename_i s x e c l i
        have key : (decide (s.size ≤ 2000) && Nat.beq x 24576 && Nat.beq e 5 && Nat.beq c 0 && nilB l && (i == 1)) = true → LoopsTo (rdB brC Tryz.prog kbb3 lp_tk LO_tk Tryz.f38 10 []) [aS s, (.own x, some (.lst 1 e c l false)), aI i] (tkR0 s [] (s.data.toList.drop 1)) := fun hc => by
          obtain ⟨hc, g5⟩ := andE hc
          obtain ⟨hc, g4⟩ := andE hc
          obtain ⟨hc, g3⟩ := andE hc
          obtain ⟨hc, g2⟩ := andE hc
          obtain ⟨g0, g1⟩ := andE hc
          rw [Nat.eq_of_beq_eq_true g1, Nat.eq_of_beq_eq_true g2, Nat.eq_of_beq_eq_true g3, nilB_inv g4, eq_of_beq g5]
          exact tk_loop s (of_decide_eq_true g0) s.size 1 [] (by omega) (by decide) (by omega)
        rcases pick3n hl with ⟨hc, he⟩ | ⟨hn, hc, he⟩ | ⟨hn, hn2, hc, he⟩
        · cases he
          obtain ⟨hc, g⟩ := andE hc
          have k := key hc
          unfold gsO at g
          rw [bs_data] at g
          obtain ⟨p, hp⟩ := Option.isSome_iff_exists.1 g
          unfold tkR0 at k
          rw [hp] at k
          have eT : gsT (bs (s.data.toList.drop 1)) = bs p.1 := by unfold gsT; rw [bs_data, hp]; rfl
          have eR : gsR (bs (s.data.toList.drop 1)) = bs p.2 := by unfold gsR; rw [bs_data, hp]; rfl
          rw [eT, eR]
          exact k
        · cases he
          obtain ⟨hc, g⟩ := andE hc
          have k := key hc
          unfold tkR0 at k
          rw [un2_gs g, g] at k
          exact k
        · cases he
          have k := key hc
          rw [hc, Bool.true_and] at hn hn2
          unfold gsO at hn
          rw [bs_data] at hn
          unfold tkR0 at k
          have hu : unesc (s.data.toList.drop 1) = none := by
            cases hu : unesc (s.data.toList.drop 1) with
            | none => rfl
            | some p => rw [hu] at hn; cases hn
          rw [hu, hn2] at k
          exact k
      · cases hl
    · have hx1 : s.extract 1 9 = bs ((s.data.toList.drop 1).take 8) := by rw [extract_bs]
      have hx9 : s.extract 9 s.size = bs (s.data.toList.drop 9) := by rw [extract_bs, List.take_of_length_le (by rw [List.length_drop]; omega)]
      unfold tkT tkL tkO sub2
      rw [hx1, bs_data]
      generalize hW : beW ((s.data.toList.drop 1).take 8) = W
      generalize hcc : (((s.data.toList.getD 0 0).toNat : Nat) : Int) = c
      have fin : (brC (decide (s.size ≤ 2000) && Nat.beq 24576 24576 && Nat.beq 5 5 && Nat.beq 0 0 && nilB [] && (1 : Int) == 1 && gsO (bs (List.drop 1 s.data.toList)))
          (some ((IV.tup [cS (gsT (bs (List.drop 1 s.data.toList))), cS (gsR (bs (List.drop 1 s.data.toList))), cB true], ([] : List (List CV)))))
          (brC (decide (s.size ≤ 2000) && Nat.beq 24576 24576 && Nat.beq 5 5 && Nat.beq 0 0 && nilB [] && (1 : Int) == 1 && un2 (List.drop 1 s.data.toList))
            (some ((IV.tup [cS ⟨#[]⟩, cS ⟨#[]⟩, cB false], [])))
            (brC (decide (s.size ≤ 2000) && Nat.beq 24576 24576 && Nat.beq 5 5 && Nat.beq 0 0 && nilB [] && (1 : Int) == 1)
              (some ((IV.tup [cS ⟨#[]⟩, cS ⟨#[]⟩, cB false], [])))
              none))) = some (IV.tup [cS ((if gsO (bs (s.data.toList.drop 1)) = true then some (gsT (bs (s.data.toList.drop 1)), gsR (bs (s.data.toList.drop 1))) else none).getD (⟨#[]⟩, ⟨#[]⟩)).1, cS ((if gsO (bs (s.data.toList.drop 1)) = true then some (gsT (bs (s.data.toList.drop 1)), gsR (bs (s.data.toList.drop 1))) else none).getD (⟨#[]⟩, ⟨#[]⟩)).2, cB (if gsO (bs (s.data.toList.drop 1)) = true then some (gsT (bs (s.data.toList.drop 1)), gsR (bs (s.data.toList.drop 1))) else none).isSome], []) := by
        rw [k1, nilB_mk]
        cases gsO (bs (s.data.toList.drop 1)) with
        | true => rfl
        | false => cases un2 (s.data.toList.drop 1) <;> rfl
      by_cases c1 : c = 1
      · by_cases h9 : 9 ≤ s.size
        · rw [if_pos ⟨c1, h9⟩]
          have z : (bs ((s.data.toList.drop 1).take 8)).size = 8 := by rw [bs_len, List.length_take, List.length_drop]; omega
          rw [z, show (c == 1) = true from beq_iff_eq.2 c1]
          by_cases hr : 1 ≤ W ∧ W ≤ 1999999999999999999
          · rw [if_pos hr]
            have w1 : IntKind.wrap .i64 (W - 1000000000000000000) = W - 1000000000000000000 := wrapI (by omega) (by omega)
            have hin : numIn (W - 1000000000000000000) = true := numIn_mk (by omega) (by omega)
            simp (disch := omega) only [dT, w1, hin, hx9, Int.toNat_natCast, hr.1, hr.2, Bool.and_true, Option.getD_some, Option.isSome_some]
            rfl
          · rw [if_neg hr]
            have : (decide (1 ≤ W) && decide (W ≤ 1999999999999999999)) = false := by
              cases hb : (decide (1 ≤ W) && decide (W ≤ 1999999999999999999)) with
              | false => rfl
              | true =>
                rw [Bool.and_eq_true, decide_eq_true_eq, decide_eq_true_eq] at hb
                exact absurd hb hr
            rw [this]
            simp (disch := omega) only [dT, Bool.and_true]
            rfl
        · rw [if_neg (fun h => h9 h.2), if_neg (show ¬ c = 2 by omega)]
          rw [show (c == 1) = true from beq_iff_eq.2 c1, show (c != 2) = true from bne_iff_ne.2 (by omega)]
          rw [dF (show ¬ ((s.size : Int) ≥ 9) by omega)]
          simp (disch := omega) only [dT, Bool.and_true]
          rfl
      · rw [if_neg (fun h => c1 h.1)]
        rw [show (c == 1) = false from beq_eq_false_iff_ne.2 c1]
        rw [dT (show (0 : Int) < (s.size : Int) by omega)]
        by_cases c2 : c = 2
        · rw [if_pos c2, show (c != 2) = false by rw [c2]; rfl]
          exact fin
        · rw [if_neg c2, show (c != 2) = true from bne_iff_ne.2 c2]
          rfl
  · cases h
theorem ok_kbb4 : EntriesOk Tryz.prog kbb4 := ⟨ok_tk, ok_put, ok_l02Subs, trivial⟩
theorem sub2_size {r : ByteArray} {p : ByteArray × ByteArray} (h : sub2 r = some p) (hr : r.size ≤ 2000) : p.1.size ≤ 2000 ∧ p.2.size ≤ 2000 := by
  have a3 := gs_size (bs (r.data.toList.drop 1))
  have hx : (bs (r.data.toList.drop 1)).size ≤ 2000 := by rw [bs_len, List.length_drop, ← size_len]; omega
  unfold sub2 at h
  split at h
  · split at h
    · rename_i hr2
      cases h
      have := textOf_len (n := beW ((r.data.toList.drop 1).take 8) - 1000000000000000000) ⟨by omega, by omega⟩
      refine ⟨?_, ?_⟩
      · dsimp only; rw [bs_len]; omega
      · dsimp only; rw [bs_len, List.length_drop, ← size_len]; omega
    · cases h
  · split at h
    · split at h
      · cases h; exact ⟨by dsimp only; omega, by dsimp only; omega⟩
      · cases h
    · cases h
theorem walkS_sh : ∀ (k : Nat) (xs : List ByteArray) (r : ByteArray), r.size ≤ 2000 → (∀ x ∈ xs, x.size ≤ 2000) → (∀ x ∈ (walkS k xs r).2.1, x.size ≤ 2000) ∧ (walkS k xs r).2.1.length ≤ xs.length + k
  | 0, xs, r, hr, hx => ⟨hx, Nat.le_refl _⟩
  | k + 1, xs, r, hr, hx => by
    unfold walkS
    split
    · exact ⟨hx, by dsimp only; omega⟩
    · cases hs : sub2 r with
      | none => exact ⟨hx, by dsimp only; omega⟩
      | some p =>
        obtain ⟨p1, p2⟩ := sub2_size hs hr
        obtain ⟨h1, h2⟩ := walkS_sh k (xs ++ [p.1]) p.2 p2 fun x h => by
          rcases List.mem_append.1 h with h | h
          · exact hx x h
          · rw [List.mem_singleton.1 h]; exact p1
        refine ⟨h1, ?_⟩
        rw [List.length_append, List.length_singleton] at h2
        dsimp only
        omega
theorem sget_loop (s : ByteArray) : ∀ (m : Nat) (pre : List ByteArray) (r : ByteArray), m + pre.length = 5 → r.size ≤ 2000 → LoopsTo (rdB brC Tryz.prog kbb4 lp_sget LO_sget Tryz.f21 3 []) [aS s, aLs 4 pre, aS r]
    (if (walkS m pre r).1 = true then (.exit 0, [aS s, aX, aX, aLs 4 (walkS m pre r).2.1, aS (walkS m pre r).2.2]) else (.ret, [aS s, aLs 2 [], aB false, aLs 4 (walkS m pre r).2.1, aS (walkS m pre r).2.2])) := by
  intro m
  induction m with
  | zero =>
    intro pre r hm hr
    refine .done _ _ ((r_sget_eq s _ _ r).trans ?_)
    rw [dF (show ¬ ((pre.length : Nat) : Int) ≤ 4 by omega)]
    unfold walkS
    dsimp only
    rw [if_pos rfl]
    cases (r.toList == []) <;> rfl
  | succ m ih =>
    intro pre r hm hr
    have tree := r_sget_eq s pre.length (pre.map .str) r
    unfold walkS
    cases he : (r.toList == ([] : List UInt8)) with
    | true =>
      rw [he] at tree
      rw [if_pos rfl]
      dsimp only
      rw [if_pos rfl]
      exact .done _ _ tree
    | false =>
      rw [he] at tree
      rw [if_neg Bool.false_ne_true]
      have h0 : 0 < r.size := by
        rcases Nat.eq_zero_or_pos r.size with h | h
        · have : r.toList = [] := List.length_eq_zero_iff.1 (by rw [ByteArray.toList_eq, ← size_len]; exact h)
          rw [this] at he
          cases he
        · exact h
      have b1 : ∀ x : PV, Nat.beq (List.length [x]) (1 * 1) = true := fun _ => rfl
      simp (disch := omega) only [dT, Int.toNat_natCast, b1, Bool.and_true, Bool.true_and] at tree
      cases hsb : sub2 r with
      | none =>
        have hO : tkO r = false := by unfold tkO; rw [hsb]; rfl
        rw [hO] at tree
        dsimp only
        rw [if_neg Bool.false_ne_true]
        exact .done _ _ tree
      | some p =>
        have hO : tkO r = true := by unfold tkO; rw [hsb]; rfl
        have hT : tkT r = p.1 := by unfold tkT; rw [hsb]; rfl
        have hL : tkL r = p.2 := by unfold tkL; rw [hsb]; rfl
        rw [hO, hT, hL] at tree
        have := ih (pre ++ [p.1]) p.2 (by rw [List.length_append, List.length_singleton]; omega) (sub2_size hsb hr).2
        unfold aLs at this ⊢
        rw [List.length_append, List.length_singleton, List.map_append] at this
        exact .step _ _ _ tree this
theorem sub2_enc (y : ByteArray) (r : List UInt8) : sub2 (bs (encS y.data.toList ++ r)) = some (y, bs r) := by
  have hg : ∀ (c : UInt8) (L : List UInt8), (bs (c :: L)).data.toList.getD 0 0 = c := fun c L => by rw [bs_data]; rfl
  by_cases hcn : canonB y.data.toList = true
  · have e : encS y.data.toList ++ r = 1 :: (beK 8 (numOf y.data.toList + 1000000000000000000).toNat ++ r) := by
      unfold encS
      rw [if_pos hcn]
      rfl
    rw [e]
    have hr := numOf_range y.data.toList
    generalize hn : (numOf y.data.toList + 1000000000000000000).toNat = n
    have htk : (beK 8 n ++ r).take 8 = beK 8 n := by rw [List.take_left' (beK_len 8 n)]
    have hdr : (beK 8 n ++ r).drop 8 = r := by rw [List.drop_left' (beK_len 8 n)]
    have hv : beV (beK 8 n) = n := by
      have big : (256 : Nat) ^ 8 = 18446744073709551616 := by decide
      have h := beV_beK 8 n 0
      rw [big] at h
      refine Eq.trans (show beV (beK 8 n) = (beK 8 n).foldl (fun n c => n * 256 + c.toNat) 0 from rfl) ?_
      omega
    have hw : beW (beK 8 n) = (n : Int) := by unfold beW; rw [hv]; exact wrapI (by omega) (by omega)
    have hnn : ((n : Nat) : Int) - 1000000000000000000 = numOf y.data.toList := by omega
    have h9 : 9 ≤ (bs (1 :: (beK 8 n ++ r))).size := by rw [bs_len, List.length_cons, List.length_append, beK_len]; omega
    have ht : bs (textOf (numOf y.data.toList)) = y := by
      have := of_decide_eq_true hcn
      rw [this, bs_self]
    unfold sub2
    rw [hg, if_pos ⟨(rfl : (((1 : UInt8).toNat : Nat) : Int) = 1), h9⟩, bs_data, List.drop_succ_cons, List.drop_zero, htk, hw, if_pos (by omega), hnn, ht, List.drop_succ_cons, hdr]
  · have e : encS y.data.toList ++ r = 2 :: (escS y.data.toList ++ 0 :: 0 :: r) := by
      unfold encS
      rw [if_neg hcn]
      simp
    rw [e]
    have hu := unesc_esc y.data.toList r
    have hO : gsO (bs (escS y.data.toList ++ 0 :: 0 :: r)) = true := by unfold gsO; rw [bs_data, hu]; rfl
    unfold sub2
    rw [hg, if_neg (fun h => absurd h.1 (by decide)), if_pos (show (((2 : UInt8).toNat : Nat) : Int) = 2 from rfl), bs_data, List.drop_succ_cons, List.drop_zero, if_pos hO]
    unfold gsT gsR
    rw [bs_data, hu]
    show some (bs y.data.toList, bs r) = _
    rw [bs_self]
theorem walkS_enc : ∀ (ys pre : List ByteArray) (m : Nat), ys.length ≤ m → walkS m pre (bs (encL ys)) = (true, pre ++ ys, ⟨#[]⟩)
  | [], pre, m, h => by
    cases m with
    | zero => unfold walkS; rw [List.append_nil]; rfl
    | succ m =>
      unfold walkS
      rw [toList_nil, if_pos (show (encL []).isEmpty = true from rfl), List.append_nil]
      rfl
  | y :: ys, pre, 0, h => by simp at h
  | y :: ys, pre, m + 1, h => by
    rw [List.length_cons] at h
    have ih := walkS_enc ys (pre ++ [y]) m (by omega)
    obtain ⟨c, L, hL⟩ : ∃ c L, encL (y :: ys) = c :: L := encS_ne y.data.toList (encL ys)
    unfold walkS
    rw [toList_nil, hL, if_neg (by simp), ← hL]
    rw [show encL (y :: ys) = encS y.data.toList ++ encL ys from rfl, sub2_enc]
    dsimp only
    rw [ih, List.append_assoc]
    rfl
theorem ok_sget : EntryOk Tryz.prog 21 E_sget := entry_ofM mix ok_kbb4 (lp := lp_sget) (LO := LO_sget) ⟨Tryz.func21, by kernel_rfl, by kernel_rfl⟩ (by kernel_rfl) fun ivs res bxs h => by
  unfold E_sget at h
  split at h
  · rename_i s
    have LP : ∀ b ∈ loopsIn (bodyOf Tryz.f21), LoopOk Tryz.prog (tabL kbb4) (OL lp_sget) Tryz.f21.ntmps (pbOf []) LO_sget b := by
      refine oneLoop 3 (by kernel_rfl) (by kernel_rfl) (by kernel_rfl) ?_
      intro ls e ls' hl
      replace hl : pickA (LO_sget_3 ls) = some (e, ls') := hl
      unfold LO_sget_3 at hl
      split at hl
      · rename_i s x e cn cl r
        rcases pick2 hl with ⟨hc, he⟩ | ⟨hn, hc, he⟩
        · cases he
          obtain ⟨hc, g5⟩ := andE hc
          obtain ⟨hc, g4⟩ := andE hc
          obtain ⟨hc, g3⟩ := andE hc
          obtain ⟨hc, g2⟩ := andE hc
          obtain ⟨g0, g1⟩ := andE hc
          rw [Nat.eq_of_beq_eq_true g2, Nat.eq_of_beq_eq_true g3, Nat.eq_of_beq_eq_true g4, nilB_inv g5]
          have := sget_loop s 5 [] r rfl (of_decide_eq_true g0)
          rw [g1, if_pos rfl] at this
          exact this
        · cases he
          obtain ⟨hc, g5⟩ := andE hc
          obtain ⟨hc, g4⟩ := andE hc
          obtain ⟨hc, g3⟩ := andE hc
          obtain ⟨g0, g2⟩ := andE hc
          have g1 : (walkS 5 [] r).1 = false := by
            cases hw : (walkS 5 [] r).1 with
            | false => rfl
            | true =>
              rw [g0, g2, g3, g4, g5, hw] at hn
              cases hn
          rw [Nat.eq_of_beq_eq_true g2, Nat.eq_of_beq_eq_true g3, Nat.eq_of_beq_eq_true g4, nilB_inv g5]
          have := sget_loop s 5 [] r rfl (of_decide_eq_true g0)
          rw [g1, if_neg Bool.false_ne_true] at this
          exact this
      · cases hl
    have tree := q_sget_eq s
    refine ⟨LP, ?_⟩
    rcases pick2 h with ⟨hc, he⟩ | ⟨hn, hc, he⟩
    · cases he
      obtain ⟨k0, k1⟩ := andE hc
      have hs := of_decide_eq_true k0
      obtain ⟨xs, hx, hB⟩ := holds_inv k1
      obtain ⟨hx4, hx24⟩ := subsB_inv hB
      have es : s = bs (encL xs) := by rw [← hx, bs_self]
      have hw : walkS 5 [] s = (true, xs, ⟨#[]⟩) := by rw [es, walkS_enc xs [] 5 (by omega)]; rfl
      have hsh : shL xs := ⟨by omega, fun z hz => by have := hx24 z hz; omega⟩
      have e1 := isL_mk hsh
      have e2 := asL_mk xs
      have hq : (ByteArray.toList (bs (encL xs)) == ByteArray.toList s) = true := by rw [← es]; simp
      have hz : (ByteArray.toList (⟨#[]⟩ : ByteArray) == ([] : List UInt8)) = true := toList_nil []
      rw [hw] at tree
      rw [hx, decL_enc]
      simp only [isL, k0, nilB_mk, e1, asL_mk, hB, hq, hz, Bool.and_true, Bool.true_and, Nat.beq_refl] at tree
      exact ⟨_, tree.trans rfl, rfl, rfl⟩
    · cases he
      have hs := of_decide_eq_true hc
      have hne : holds (isEnc s.data.toList) = false := by
        cases hh : holds (isEnc s.data.toList) with
        | false => rfl
        | true => rw [hc, hh] at hn; cases hn
      refine ⟨.tup [.cv (.lst 1 9 0 [] false), cB false], ?_, rfl, rfl⟩
      cases hw1 : (walkS 5 [] s).1 with
      | false =>
        simp only [hw1, hc, nilB_mk, Bool.and_true, Bool.true_and, Bool.and_false, Bool.false_and, Nat.beq_refl] at tree
        exact tree.trans rfl
      | true =>
        obtain ⟨z1, z2⟩ := walkS_sh 5 [] s hs (fun _ h => by cases h)
        have hsh : shL (walkS 5 [] s).2.1 := ⟨by simp at z2; omega, fun z hz => by have := z1 z hz; omega⟩
        have e1 := isL_mk hsh
        have e2 := asL_mk (walkS 5 [] s).2.1
        rw [hw1] at tree
        simp only [isL, hc, nilB_mk, e1, asL_mk, Bool.and_true, Bool.true_and, Nat.beq_refl] at tree
        cases hz : (ByteArray.toList (walkS 5 [] s).2.2 == ([] : List UInt8)) with
        | false =>
          rw [hz] at tree
          exact tree.trans rfl
        | true =>
          rw [hz] at tree
          cases hB : subsB (walkS 5 [] s).2.1 with
          | false =>
            rw [hB] at tree
            exact tree.trans rfl
          | true =>
            have hq : (ByteArray.toList (bs (encL (walkS 5 [] s).2.1)) == ByteArray.toList s) = false := by
              refine beq_eq_false_iff_ne.2 fun e => ?_
              have : holds (isEnc s.data.toList) = true := holds_mk ⟨(walkS 5 [] s).2.1, by
                have := congrArg (fun l => l) e
                rw [bs_toList, ByteArray.toList_eq] at this
                exact this.symm, hB⟩
              rw [hne] at this
              cases this
            rw [hB, hq] at tree
            exact tree.trans rfl
  · cases h
theorem ok_kbb5 : EntriesOk Tryz.prog kbb5 := ⟨ok_l03Place, ok_SPutSubs, ok_sget, trivial⟩
theorem keyV2_eq (s : ByteArray) (xs : List ByteArray) : keyV2 s xs = if placeB s xs = true then bs (keyL s xs) else ⟨#[]⟩ := hidS_eq _
theorem nameB_le {s : ByteArray} (h : nameB s = true) : s.size ≤ 8 := by
  unfold nameB at h
  rw [Bool.and_eq_true, Bool.and_eq_true, decide_eq_true_eq, decide_eq_true_eq] at h
  exact h.1.2
theorem keyL_le {s : ByteArray} {xs : List ByteArray} (h : placeB s xs = true) : (keyL s xs).length ≤ 300 := by
  obtain ⟨h1, h2⟩ := plcB_inv h
  obtain ⟨h3, h4⟩ := subsB_inv h2
  have h5 := encL_len xs h4
  have h6 := nameB_le h1
  rw [size_len] at h6
  unfold keyL
  rw [List.length_append, List.length_cons]
  omega
theorem keyOf_tree (s : ByteArray) (xs : List ByteArray) (h1 : s.size ≤ 1000000) (hx : shL xs) :
    brC (decide (ByteArray.size s ≤ 1000000) && isL (PV.sl (List.length xs) (List.map PV.str xs)))
      (brC (!placeB s (asL (PV.sl (List.length xs) (List.map PV.str xs))))
        (some ((IV.cv (CV.pv (PV.str { data := #[] })), ([] : List (List CV)))))
        (brC (decide (ByteArray.size s + 1 ≤ 9223372036854775807) && true)
          (brC (isL (PV.sl (List.length xs) (List.map PV.str xs)))
            (brC (decide (ByteArray.size (s ++ { data := #[1] }) + ByteArray.size (bs (putL (asL (PV.sl (List.length xs) (List.map PV.str xs))))) ≤ 9223372036854775807) && true)
              (some ((IV.cv (CV.pv (PV.str (s ++ { data := #[1] } ++ bs (putL (asL (PV.sl (List.length xs) (List.map PV.str xs))))))), [])))
              (none))
            (none))
          (none)))
      (none) = some (cS (keyV2 s xs), []) := by
  have e1 : isL (PV.sl xs.length (xs.map .str)) = true := isL_mk hx
  have e2 : asL (PV.sl xs.length (xs.map .str)) = xs := asL_mk xs
  rw [keyV2_eq, e2, e1, dT h1]
  cases hB : placeB s xs with
  | true =>
    rw [if_pos rfl]
    have hp : putL xs = encL xs := by unfold putL; rw [if_pos (plcB_inv hB).2]
    have e3 : s ++ { data := #[1] } ++ bs (encL xs) = bs (keyL s xs) := by
      conv => lhs; rw [← bs_self s]
      rw [show ({ data := #[1] } : ByteArray) = bs [1] from rfl, bs_appK, bs_appK]
      unfold keyL
      rw [List.append_assoc]
      rfl
    have hk := keyL_le hB
    have l1 : (s ++ { data := #[1] }).size + (bs (encL xs)).size = (keyL s xs).length := by rw [← ByteArray.size_append, e3, bs_len]
    rw [hp, l1, e3, dT (show s.size + 1 ≤ 9223372036854775807 by omega), dT (show (keyL s xs).length ≤ 9223372036854775807 by omega)]
    rfl
  | false =>
    rw [if_neg Bool.false_ne_true]
    rfl
theorem ok_SKeyOf2 : EntryOk Tryz.prog 27 E_KeyOf2 := entry_of mix ok_kbb5 (lp := []) (LO := LO0) ⟨Tryz.func27, by kernel_rfl, by kernel_rfl⟩ (by kernel_rfl) fun ivs res bxs h => by
  unfold E_KeyOf2 at h
  split at h
  · rename_i s p
    obtain ⟨hc, he⟩ := pick1 h
    cases he
    obtain ⟨k0, k1⟩ := andE hc
    obtain ⟨xs, rfl, hx⟩ := isL_inv k1
    have ea : asL (pL xs) = xs := asL_mk xs
    rw [ea]
    exact ⟨noLoop (by kernel_rfl), (q_SKeyOf_eq s xs).trans (keyOf_tree s xs (of_decide_eq_true k0) hx)⟩
  · cases h
theorem ok_IKeyOf2 : EntryOk Tryz.prog 56 E_KeyOf2 := entry_of mix (tab := [(71, E_locationOk), (49, E_PutSubs)]) ⟨ok_locationOk, ok_PutSubs, trivial⟩ (lp := []) (LO := LO0) ⟨Tryz.func56, by kernel_rfl, by kernel_rfl⟩ (by kernel_rfl) fun ivs res bxs h => by
  unfold E_KeyOf2 at h
  split at h
  · rename_i s p
    obtain ⟨hc, he⟩ := pick1 h
    cases he
    obtain ⟨k0, k1⟩ := andE hc
    obtain ⟨xs, rfl, hx⟩ := isL_inv k1
    have ea : asL (pL xs) = xs := asL_mk xs
    rw [ea]
    exact ⟨noLoop (by kernel_rfl), (q_IKeyOf_eq s xs).trans (keyOf_tree s xs (of_decide_eq_true k0) hx)⟩
  · cases h
theorem ok_l03Subs2 : EntryOk Tryz.prog 23 E_l03Subs2 := entry_ofM mix (tab := []) trivial (lp := []) (LO := LO0) ⟨Tryz.func23, by kernel_rfl, by kernel_rfl⟩ (by kernel_rfl) fun ivs res bxs h => by
  unfold E_l03Subs2 at h
  split at h
  · rename_i p
    obtain ⟨hc, he⟩ := pick1 h
    cases he
    obtain ⟨xs, rfl, hx⟩ := isL_inv hc
    have ea : asL (pL xs) = xs := asL_mk xs
    have hl := hx.1
    rw [ea]
    have tree := q_l03Subs2_eq xs
    have e1 : Nat.beq (List.map PV.str xs).length (xs.length * 1) = true := by rw [List.length_map, Nat.mul_one]; exact Nat.beq_refl _
    rw [e1, dT (show 0 + xs.length ≤ 140737488351232 by omega), dT (show (0 + xs.length) * 16 ≤ 140737488355328 by omega), Nat.zero_add] at tree
    exact ⟨noLoop (by kernel_rfl), _, tree.trans rfl, rfl, rfl⟩
  · cases h
theorem ok_kbb6 : EntriesOk Tryz.prog kbb6 := ⟨ok_l03Subs2, ok_kbb5⟩
noncomputable abbrev kpR (a : ByteArray) (m i : Nat) : Ex × LS := match kpF a m i with
  | some j => if holds (isEnc (a.data.toList.drop (j + 1))) = true ∧ placeB (bs (a.data.toList.take j)) (decL (a.data.toList.drop (j + 1))) = true
      then (.ret, [aS a, aS (bs (a.data.toList.take j)), aP (pL (decL (a.data.toList.drop (j + 1)))), aB true])
      else (.ret, [aS a, aS ⟨#[]⟩, aP .nils, aB false])
  | none => (.exit 0, [aS a, aX, aX, aX])
theorem kp_loop (a : ByteArray) (ha : a.size ≤ 2000) : ∀ (m i : Nat), m + i = 9 → 1 ≤ i → LoopsTo (rdB brC Tryz.prog kbb6 lp_kp LO_kp Tryz.f10 2 []) [aS a, aI i] (kpR a m i) := by
  have hla : a.size = a.data.toList.length := size_len a
  intro m
  induction m with
  | zero =>
    intro i hm h1
    refine .done _ _ ((r_kp_eq a i).trans ?_)
    rw [dF (show ¬ (i : Int) ≤ 8 by omega)]
    cases decide ((i : Int) < (a.size : Int)) <;> rfl
  | succ m ih =>
    intro i hm h1
    have tree := r_kp_eq a i
    have w1 : IntKind.wrap .i64 ((i : Int) + 1) = ((i + 1 : Nat) : Int) := by rw [wrapI (by omega) (by omega)]; omega
    rw [w1] at tree
    unfold kpR kpF
    by_cases hi : i < a.size
    · rw [if_pos ⟨hi, by omega⟩]
      have hx0 : a.extract 0 i = bs (a.data.toList.take i) := by rw [extract_bs, List.drop_zero, Nat.sub_zero]
      have hx1 : a.extract (i + 1) a.size = bs (a.data.toList.drop (i + 1)) := by rw [extract_bs, List.take_of_length_le (by rw [List.length_drop]; omega)]
      have z0 : (bs (a.data.toList.take i)).size ≤ 1000000 := by rw [bs_len, List.length_take]; omega
      have z1 : (bs (a.data.toList.drop (i + 1))).size ≤ 2000 := by rw [bs_len, List.length_drop]; omega
      simp (disch := omega) only [dT, Int.toNat_natCast, hx0, hx1, bs_data, Bool.and_true, Bool.true_and] at tree
      by_cases c1 : a.data.toList.getD i 0 = 1
      · rw [if_pos c1]
        dsimp only
        rw [c1, show (((((1 : UInt8).toNat : Nat) : Int)) != (1 : Int)) = false from rfl] at tree
        by_cases hE : isEnc (a.data.toList.drop (i + 1))
        · rw [holds_mk hE] at tree ⊢
          obtain ⟨xs, hx, hB⟩ := hE
          obtain ⟨hx4, hx24⟩ := subsB_inv hB
          have hsh : shL xs := ⟨by omega, fun z hz => by have := hx24 z hz; omega⟩
          have e1 := isL_mk hsh
          rw [hx, decL_enc] at tree ⊢
          simp only [isL, e1, asL_mk] at tree
          cases hp : placeB (bs (a.data.toList.take i)) xs with
          | true =>
            rw [hp] at tree
            rw [if_pos ⟨rfl, rfl⟩]
            exact .done _ _ tree
          | false =>
            rw [hp] at tree
            rw [if_neg (fun h => Bool.false_ne_true h.2)]
            exact .done _ _ tree
        · have hf : holds (isEnc (a.data.toList.drop (i + 1))) = false := @decide_eq_false _ (Classical.propDecidable _) hE
          rw [hf] at tree ⊢
          rw [if_neg (fun h => Bool.false_ne_true h.1)]
          exact .done _ _ tree
      · rw [if_neg c1]
        rw [show ((((a.data.toList.getD i 0).toNat : Nat) : Int) != (1 : Int)) = true from bne_iff_ne.2 fun h => c1 (UInt8.toNat_inj.1 (by show _ = 1; omega))] at tree
        have := ih (i + 1) (by omega) (by omega)
        exact .step _ _ _ tree this
    · rw [if_neg (fun h => hi h.1)]
      rw [dF (by omega)] at tree
      exact .done _ _ tree
theorem kpF_spec (a : ByteArray) : ∀ (m i j : Nat), kpF a m i = some j → i ≤ j ∧ j < a.size ∧ a.data.toList.getD j 0 = 1 ∧ ∀ k, i ≤ k → k < j → a.data.toList.getD k 0 ≠ 1
  | 0, i, j, h => by cases h
  | m + 1, i, j, h => by
    unfold kpF at h
    split at h
    · rename_i hi
      split at h
      · rename_i h1
        cases h
        exact ⟨Nat.le_refl _, hi.1, h1, fun k h1 h2 => by omega⟩
      · rename_i h1
        obtain ⟨g1, g2, g3, g4⟩ := kpF_spec a m (i + 1) j h
        exact ⟨by omega, g2, g3, fun k hk1 hk2 => by
          rcases Nat.eq_or_lt_of_le hk1 with rfl | hk
          · exact h1
          · exact g4 k hk hk2⟩
    · cases h
theorem kpF_none (a : ByteArray) : ∀ (m i : Nat), kpF a m i = none → ∀ k, i ≤ k → k < i + m → k < a.size → k ≤ 8 → a.data.toList.getD k 0 ≠ 1
  | 0, i, h, k, h1, h2, _, _ => by omega
  | m + 1, i, h, k, h1, h2, h3, h4 => by
    unfold kpF at h
    rw [if_pos ⟨by omega, by omega⟩] at h
    split at h
    · cases h
    · rename_i hne
      rcases Nat.eq_or_lt_of_le h1 with rfl | hk
      · exact hne
      · exact kpF_none a m (i + 1) h k hk (by omega) h3 h4
theorem ky_kp {a s : ByteArray} {xs : List ByteArray} (h : a.data.toList = keyL s xs) (hp : placeB s xs = true) : kpF a 8 1 = some s.size ∧ a.data.toList.take s.size = s.data.toList ∧ a.data.toList.drop (s.size + 1) = encL xs := by
  obtain ⟨n1, n2⟩ := plcB_inv hp
  have hbig := nameB_big n1
  have hle := nameB_le n1
  have hsl : s.size = s.data.toList.length := size_len s
  have h0 : 1 ≤ s.size := by
    unfold nameB at n1
    rw [Bool.and_eq_true, Bool.and_eq_true, decide_eq_true_eq, decide_eq_true_eq] at n1
    omega
  have hat : a.data.toList.getD s.size 0 = 1 := by
    rw [h, hsl, List.getD_eq_getElem?_getD]
    unfold keyL
    rw [List.getElem?_append_right (Nat.le_refl _), Nat.sub_self]
    rfl
  have hlt : ∀ k, k < s.size → a.data.toList.getD k 0 ≠ 1 := fun k hk => by
    rw [h, List.getD_eq_getElem?_getD]
    unfold keyL
    rw [List.getElem?_append_left (by omega), List.getElem?_eq_getElem (by omega)]
    exact one_ne (hbig _ (List.getElem_mem _))
  have hsz : s.size < a.size := by
    rw [size_len a, h]
    unfold keyL
    rw [List.length_append, List.length_cons]
    omega
  refine ⟨?_, ?_, ?_⟩
  · cases hk : kpF a 8 1 with
    | none => exact absurd hat (kpF_none a 8 1 hk s.size h0 (by omega) hsz hle)
    | some j =>
      obtain ⟨g1, g2, g3, g4⟩ := kpF_spec a 8 1 j hk
      rcases Nat.lt_trichotomy j s.size with h | h | h
      · exact absurd g3 (hlt j h)
      · rw [h]
      · exact absurd hat (g4 s.size h0 h)
  · rw [h, hsl]
    unfold keyL
    rw [List.take_left]
  · rw [h, hsl]
    unfold keyL
    rw [show s.data.toList ++ 1 :: encL xs = (s.data.toList ++ [1]) ++ encL xs by simp, show s.data.toList.length + 1 = (s.data.toList ++ [1]).length by simp, List.drop_left]
theorem kp_ky {a : ByteArray} {j : Nat} (hk : kpF a 8 1 = some j) {xs : List ByteArray} (hx : a.data.toList.drop (j + 1) = encL xs) (hp : placeB (bs (a.data.toList.take j)) xs = true) : isKy a := by
  obtain ⟨g1, g2, g3, g4⟩ := kpF_spec a 8 1 j hk
  have hla : a.size = a.data.toList.length := size_len a
  refine ⟨(bs (a.data.toList.take j), xs), ?_, hp⟩
  have hg : a.data.toList[j]'(by omega) = 1 := by
    rw [List.getD_eq_getElem?_getD, List.getElem?_eq_getElem (by omega)] at g3
    exact g3
  unfold keyL
  dsimp only
  rw [bs_data, ← hx, ← hg, ← List.drop_eq_getElem_cons (by omega), List.take_append_drop]
theorem ok_SKeyPl : EntryOk Tryz.prog 10 E_SKeyPl := entry_of mix ok_kbb6 (lp := lp_kp) (LO := LO_kp) ⟨Tryz.func10, by kernel_rfl, by kernel_rfl⟩ (by kernel_rfl) fun ivs res bxs h => by
  unfold E_SKeyPl at h
  split at h
  · rename_i a
    refine ⟨oneLoop 2 (by kernel_rfl) (by kernel_rfl) (by kernel_rfl) ?_, (q_kp_eq a).trans ?_⟩
    · intro ls e ls' hl
      replace hl : pickA (LO_kp_2 ls) = some (e, ls') := hl
      unfold LO_kp_2 at hl
      split at hl
      · rename_i a i
        have key : decide (a.size ≤ 2000) = true → (i == 1) = true → LoopsTo (rdB brC Tryz.prog kbb6 lp_kp LO_kp Tryz.f10 2 []) [aS a, aI i] (kpR a 8 1) := fun h1 h2 => by
          rw [eq_of_beq h2]
          exact kp_loop a (of_decide_eq_true h1) 8 1 rfl (Nat.le_refl _)
        rcases pick3n hl with ⟨hc, he⟩ | ⟨hn, hc, he⟩ | ⟨hn, hn2, hc, he⟩
        · cases he
          obtain ⟨hc, g2⟩ := andE hc
          obtain ⟨g0, g1⟩ := andE hc
          have k := key g0 g1
          obtain ⟨⟨s, xs⟩, h3, h4⟩ := holds_inv g2
          obtain ⟨y1, y2, y3⟩ := ky_kp h3 h4
          unfold kpR at k
          rw [y1] at k
          dsimp only at k
          rw [y2, y3, decL_enc, bs_self, if_pos ⟨holds_mk ⟨xs, rfl, (plcB_inv h4).2⟩, h4⟩] at k
          rw [deKy_eq h3 h4]
          exact k
        · cases he
          obtain ⟨hc, g2⟩ := andE hc
          obtain ⟨g0, g1⟩ := andE hc
          have k := key g0 g1
          obtain ⟨j, hj⟩ := Option.isSome_iff_exists.1 g2
          have hnk : ¬ isKy a := fun hk => by rw [g0, g1, holds_mk hk] at hn; cases hn
          unfold kpR at k
          rw [hj] at k
          dsimp only at k
          rw [if_neg (fun hh => by
            obtain ⟨xs, hx, hB⟩ := holds_inv hh.1
            have h2 := hh.2
            rw [hx, decL_enc] at h2
            exact hnk (kp_ky hj hx h2))] at k
          exact k
        · cases he
          obtain ⟨g0, g1⟩ := andE hc
          have k := key g0 g1
          have hj : kpF a 8 1 = none := by
            cases hj : kpF a 8 1 with
            | none => rfl
            | some j => rw [g0, g1, hj] at hn2; cases hn2
          unfold kpR at k
          rw [hj] at k
          exact k
      · cases hl
    · rcases pick2 h with ⟨hc, he⟩ | ⟨hn, hc, he⟩
      · cases he
        obtain ⟨k0, k1⟩ := andE hc
        rw [k0, k1]
        rfl
      · cases he
        rw [hc] at hn ⊢
        rw [Bool.true_and] at hn
        rw [hn]
        cases (kpF a 8 1).isSome <;> rfl
  · cases h
end
section
open Go.RowKit
set_option linter.unusedVariables false
abbrev lp_IdxFL : List (Nat × List Nat × List Nat) := [(2, [0, 1, 7, 8], [4])]
def E_longL1 : Entry := fun ivs => match ivs with | [.cv (.pv (.str s))] => [(true, cB (decide ((s.size : Int) > 64)), [])] | _ => []
noncomputable def q_longL1 (br : Br) (s : ByteArray) := evB br Tryz.prog [] [] LO0 Tryz.f94 [cS s]
noncomputable def lgb2 : List (FuncId × Entry) := [(94, E_longL1)]
def frstL (xs : List ByteArray) : Nat := idxV (fun x => decide ((x.size : Int) > 64)) xs
noncomputable def LO_IdxFL : LoopT := fun _ ls => match ls with
  | [(.pv p, none), (.pv (.clo f []), none), (.pv (.int .i64 n), none), (.pv (.int .i64 i), none)] =>
    [(isL p && Nat.beq f 94 && (n == ((asL p).length : Int)) && (i == 0) && decide (frstL (asL p) < (asL p).length), .ret, [aI (frstL (asL p))]),
     (isL p && Nat.beq f 94 && (n == ((asL p).length : Int)) && (i == 0), .exit 0, [aX])]
  | _ => []
noncomputable def r_IdxFL (br : Br) (xs : List ByteArray) (i : Int) := rdB br Tryz.prog lgb2 lp_IdxFL LO_IdxFL Tryz.f90 2 [] [aP (pL xs), aP (.clo 94 []), aI xs.length, aI i]
noncomputable def q_IdxFL (br : Br) (xs : List ByteArray) := evB br Tryz.prog lgb2 lp_IdxFL LO_IdxFL Tryz.f90 [cP (pL xs), cP (.clo 94 [])]
noncomputable def E_IdxFL : Entry := fun ivs => match ivs with
  | [.cv (.pv p), .cv (.pv (.clo f []))] => [(isL p && Nat.beq f 94, cI (if frstL (asL p) < (asL p).length then frstL (asL p) else -1), [])]
  | _ => []
noncomputable def lgb3 : List (FuncId × Entry) := (90, E_IdxFL) :: lgb2
noncomputable def q_ContFL (br : Br) (xs : List ByteArray) := evB br Tryz.prog lgb3 [] LO0 Tryz.f67 [cP (pL xs), cP (.clo 94 [])]
noncomputable def E_ContFL : Entry := fun ivs => match ivs with
  | [.cv (.pv p), .cv (.pv (.clo f []))] => [(isL p && Nat.beq f 94, cB (decide (frstL (asL p) < (asL p).length)), [])]
  | _ => []
noncomputable def lgb4 : List (FuncId × Entry) := (67, E_ContFL) :: lgb3
noncomputable def q_longL (br : Br) (xs : List ByteArray) := evB br Tryz.prog lgb4 [] LO0 Tryz.f72 [cP (pL xs)]
noncomputable def E_longL : Entry := fun ivs => match ivs with | [.cv (.pv p)] => [(isL p, cB (decide (frstL (asL p) < (asL p).length)), [])] | _ => []
end
section
set_option linter.unusedVariables false
set_option maxRecDepth 100000
theorem q_IdxFL_eq (xs : List ByteArray) : q_IdxFL brC xs =
 brC (isL (pL xs) && Nat.beq 94 94 && (↑(List.length xs) : Int) == (↑(List.length (asL (pL xs))) : Int) && 0 == 0 && decide (frstL (asL (pL xs)) < List.length (asL (pL xs))))
 (some ((IV.cv (CV.pv (PV.int IntKind.i64 (↑(frstL (asL (pL xs))) : Int))), [])))
 (brC (isL (pL xs) && Nat.beq 94 94 && (↑(List.length xs) : Int) == (↑(List.length (asL (pL xs))) : Int) && 0 == 0)
 (some ((IV.cv (CV.pv (PV.int IntKind.i64 (Int.negSucc 0))), [])))
 (none)) := by kernel_rfl
theorem q_ContFL_eq (xs : List ByteArray) : q_ContFL brC xs =
 brC (isL (PV.sl (List.length xs) (List.map PV.str xs)) && Nat.beq 94 94)
 (some ((IV.cv (CV.pv (PV.bool (decide ((if frstL (asL (PV.sl (List.length xs) (List.map PV.str xs))) < List.length (asL (PV.sl (List.length xs) (List.map PV.str xs))) then (↑(frstL (asL (PV.sl (List.length xs) (List.map PV.str xs)))) : Int) else -1) ≥ 0)))), [])))
 (none) := by kernel_rfl
theorem q_longL_eq (xs : List ByteArray) : q_longL brC xs =
 brC (isL (PV.sl (List.length xs) (List.map PV.str xs)) && Nat.beq 94 94)
 (some ((IV.cv (CV.pv (PV.bool (decide (frstL (asL (PV.sl (List.length xs) (List.map PV.str xs))) < List.length (asL (PV.sl (List.length xs) (List.map PV.str xs))))))), [])))
 (none) := by kernel_rfl
theorem q_longL1_eq (s : ByteArray) : q_longL1 brC s =
 some ((IV.cv (CV.pv (PV.bool (decide ((↑(ByteArray.size s) : Int) > 64)))), [])) := by kernel_rfl
theorem r_IdxFL_eq (xs : List ByteArray) (i : Int) : r_IdxFL brC xs i =
 brC (decide (i < (↑(List.length xs) : Int)))
 (brC (decide (0 ≤ i) && decide (i < (↑(List.length xs) : Int)))
 (brC (Nat.blt 0 (List.length (List.drop (Int.toNat i * 1) (List.map PV.str xs))) && PV.isStr (List.headD (List.drop (Int.toNat i * 1) (List.map PV.str xs)) PV.nilp) && true)
 (brC (decide ((↑(ByteArray.size (PV.asStr (List.headD (List.drop (Int.toNat i * 1) (List.map PV.str xs)) PV.nilp))) : Int) > 64))
 (some (Sum.inr (Ex.ret, [(AV.pv (PV.int IntKind.i64 i), none)])))
 (some (Sum.inl [(AV.pv (PV.sl (List.length xs) (List.map PV.str xs)), none), (AV.pv (PV.clo 94 []), none), (AV.pv (PV.int IntKind.i64 (↑(List.length xs) : Int)), none), (AV.pv (PV.int IntKind.i64 (IntKind.wrap IntKind.i64 (i + 1))), none)])))
 (none))
 (none))
 (some (Sum.inr (Ex.exit 0, [(AV.bad, none)]))) := by kernel_rfl
end
section
open Go.RowKit
set_option linter.unusedVariables false
set_option linter.unusedSimpArgs false
set_option maxRecDepth 100000
theorem ok_longL1 : EntryOk Tryz.prog 94 E_longL1 := entry_of mix (tab := []) trivial (lp := []) (LO := LO0) ⟨Tryz.func94, by kernel_rfl, by kernel_rfl⟩ (by kernel_rfl) fun ivs res bxs h => by
  unfold E_longL1 at h
  split at h
  · rename_i s
    cases h
    exact ⟨noLoop (by kernel_rfl), q_longL1_eq s⟩
  · cases h
theorem ok_lgb2 : EntriesOk Tryz.prog lgb2 := ⟨ok_longL1, trivial⟩
theorem IdxFL_loop (xs : List ByteArray) (hx : shL xs) : ∀ (m i : Nat), m + i = xs.length → LoopsTo (rdB brC Tryz.prog lgb2 lp_IdxFL LO_IdxFL Tryz.f90 2 []) [aP (pL xs), aP (.clo 94 []), aI xs.length, aI i]
    (if frstL (xs.drop i) + i < xs.length then (.ret, [aI ((frstL (xs.drop i) + i : Nat) : Int)]) else (.exit 0, [aX])) := by
  have hl := hx.1
  intro m
  induction m with
  | zero =>
    intro i hm
    obtain rfl : i = xs.length := by omega
    rw [List.drop_length, show frstL [] = 0 from rfl, if_neg (by omega)]
    refine .done _ _ ((r_IdxFL_eq xs xs.length).trans ?_)
    rw [dF (by omega)]
    rfl
  | succ m ih =>
    intro i hm
    have hi : i < xs.length := by omega
    have ih' := ih (i + 1) (by omega)
    have tree := r_IdxFL_eq xs i
    simp (disch := omega) only [show decide ((i : Int) < (xs.length : Int)) = true from dT (by omega), show decide (0 ≤ (i : Int)) = true from dT (by omega), Int.toNat_natCast, drop_strs xs i hi, List.length_cons, List.headD_cons, PV.isStr, PV.asStr, blt0, wrap1, Bool.and_true, Bool.true_and] at tree
    rw [List.drop_eq_getElem_cons hi]
    cases hin : decide ((xs[i].size : Int) > 64) with
    | true =>
      rw [hin] at tree
      rw [show frstL (xs[i] :: xs.drop (i + 1)) = 0 from idxV_in (p := fun x : ByteArray => decide ((x.size : Int) > 64)) hin, Nat.zero_add, if_pos hi]
      exact .done _ _ tree
    | false =>
      rw [hin] at tree
      rw [show frstL (xs[i] :: xs.drop (i + 1)) = frstL (xs.drop (i + 1)) + 1 from idxV_out (p := fun x : ByteArray => decide ((x.size : Int) > 64)) hin]
      have e : frstL (xs.drop (i + 1)) + (i + 1) = frstL (xs.drop (i + 1)) + 1 + i := by omega
      rw [e] at ih'
      exact .step _ _ _ tree ih'
theorem ok_IdxFL : EntryOk Tryz.prog 90 E_IdxFL := entry_of mix ok_lgb2 (lp := lp_IdxFL) (LO := LO_IdxFL) ⟨Tryz.func90, by kernel_rfl, by kernel_rfl⟩ (by kernel_rfl) fun ivs res bxs h => by
  unfold E_IdxFL at h
  split at h
  · rename_i p f
    obtain ⟨hc, he⟩ := pick1 h
    cases he
    rw [Bool.and_eq_true] at hc
    obtain ⟨xs, rfl, hx⟩ := isL_inv hc.1
    obtain rfl := Nat.eq_of_beq_eq_true hc.2
    refine ⟨oneLoop 2 (by kernel_rfl) (by kernel_rfl) (by kernel_rfl) ?_, (q_IdxFL_eq xs).trans ?_⟩
    · intro ls e ls' hl
      unfold LO_IdxFL at hl
      split at hl
      · rename_i p f n i
        cases hg : (isL p && Nat.beq f 94 && (n == ((asL p).length : Int)) && (i == 0)) with
        | false => rw [hg] at hl; simp only [pickA, Bool.false_and, cond_false] at hl; cases hl
        | true =>
          rw [hg, Bool.true_and] at hl
          simp only [Bool.and_eq_true, beq_iff_eq] at hg
          obtain ⟨⟨⟨g1, g3⟩, g4⟩, g5⟩ := hg
          obtain ⟨ys, rfl, hy⟩ := isL_inv g1
          simp only [asL_mk] at hl g4
          rw [Nat.eq_of_beq_eq_true g3, g4, g5]
          have := IdxFL_loop ys hy ys.length 0 (by omega)
          rw [List.drop_zero, Nat.add_zero] at this
          by_cases hlt : frstL ys < ys.length
          · rw [dT hlt] at hl
            rw [if_pos hlt] at this
            cases hl
            exact this
          · rw [dF hlt] at hl
            rw [if_neg hlt] at this
            cases hl
            exact this
      · cases hl
    · have e4 : asL (pL xs) = xs := asL_mk xs
      rw [e4]
      simp only [isL_mk hx, asL_mk, isL, beq_self_eq_true, Bool.and_true, Bool.true_and, Nat.beq_refl]
      by_cases hlt : frstL xs < xs.length
      · rw [dT hlt, if_pos hlt]
        rfl
      · rw [dF hlt, if_neg hlt]
        rfl
  · cases h
theorem ok_lgb3 : EntriesOk Tryz.prog lgb3 := ⟨ok_IdxFL, ok_lgb2⟩
theorem ok_ContFL : EntryOk Tryz.prog 67 E_ContFL := entry_of mix ok_lgb3 (lp := []) (LO := LO0) ⟨Tryz.func67, by kernel_rfl, by kernel_rfl⟩ (by kernel_rfl) fun ivs res bxs h => by
  unfold E_ContFL at h
  split at h
  · rename_i p f
    obtain ⟨hc, he⟩ := pick1 h
    cases he
    rw [Bool.and_eq_true] at hc
    obtain ⟨xs, rfl, hx⟩ := isL_inv hc.1
    obtain rfl := Nat.eq_of_beq_eq_true hc.2
    refine ⟨noLoop (by kernel_rfl), (q_ContFL_eq xs).trans ?_⟩
    have e4 : asL (pL xs) = xs := asL_mk xs
    rw [e4]
    simp only [isL_mk hx, asL_mk, isL, ifIdxV]
    rfl
  · cases h
theorem ok_lgb4 : EntriesOk Tryz.prog lgb4 := ⟨ok_ContFL, ok_lgb3⟩
theorem ok_longL : EntryOk Tryz.prog 72 E_longL := entry_of mix ok_lgb4 (lp := []) (LO := LO0) ⟨Tryz.func72, by kernel_rfl, by kernel_rfl⟩ (by kernel_rfl) fun ivs res bxs h => by
  unfold E_longL at h
  split at h
  · rename_i p
    obtain ⟨hc, he⟩ := pick1 h
    cases he
    obtain ⟨xs, rfl, hx⟩ := isL_inv hc
    refine ⟨noLoop (by kernel_rfl), (q_longL_eq xs).trans ?_⟩
    have e4 : asL (pL xs) = xs := asL_mk xs
    rw [e4]
    simp only [isL_mk hx, asL_mk, isL]
    rfl
  · cases h
end
section
open Go.RowKit
set_option linter.unusedVariables false
set_option linter.unusedSimpArgs false
theorem locS_nil {b t T : Nat} {v : Value} (h : locS noL (b, t) (4 * T + 3) = some v) : t = T ∧ v = .pointer none := by
  unfold locS at h
  rw [show (4 * T + 3) % 2 = 1 by omega, show (4 * T + 3) / 4 = T by omega, show (4 * T + 3) % 4 = 3 by omega] at h
  cases hb : Nat.beq T t with
  | false => rw [show Nat.beq 1 0 = false from rfl, hb] at h; cases h
  | true => rw [show Nat.beq 1 0 = false from rfl, hb] at h; cases h; exact ⟨(Nat.eq_of_beq_eq_true hb).symm, rfl⟩
theorem locS_own {b t T : Nat} {v : Value} (h : locS noL (b, t) (4 * T + 1) = some v) : t = T ∧ v = .pointer (some ⟨b, 0, none⟩) := by
  unfold locS at h
  rw [show (4 * T + 1) % 2 = 1 by omega, show (4 * T + 1) / 4 = T by omega, show (4 * T + 1) % 4 = 1 by omega] at h
  cases hb : Nat.beq T t with
  | false => rw [show Nat.beq 1 0 = false from rfl, hb] at h; cases h
  | true => rw [show Nat.beq 1 0 = false from rfl, hb] at h; cases h; exact ⟨(Nat.eq_of_beq_eq_true hb).symm, rfl⟩
theorem locS_mk (loc : Nat → Option Value) (b T : Nat) : locS loc (b, T) (4 * T + 1) = some (.pointer (some ⟨b, 0, none⟩)) := by
  unfold locS
  rw [show (4 * T + 1) % 2 = 1 by omega, show (4 * T + 1) / 4 = T by omega, show (4 * T + 1) % 4 = 1 by omega, show Nat.beq T T = true from Nat.beq_refl T]
  rfl
theorem bld_size : (Tryz.prog.info? 58).map (·.size) = some 2 := by kernel_rfl
theorem bld_lies : liesAt Tryz.prog Tryz.prog.depth 58 (2 / Tryz.prog.cellsOf 58) 0 58 1 = true := by kernel_rfl
set_option maxHeartbeats 1000000 in
set_option maxRecDepth 100000 in
theorem copyCheck_used (b : Nat) (w : World) (h0 : w.cell? ⟨b, 0, none⟩ = some (.pointer (some ⟨b, 0, none⟩))) :
    Calls Tryz.prog 54 #[.pointer (some ⟨b, 0, none⟩)] w fun e w' => e = .returned (.tuple #[]) ∧ w' = w := by
  obtain ⟨j, hj, _⟩ := Option.map_eq_some_iff.1 bld_size
  go_enter Tryz.func54, Tryz.ntmps54
  go_wp2
  rw [Lib.run_neq_ptr_same w _ Tryz.underlying56 hj]
  go_wp2
  go_end0
  exact ⟨rfl, rfl⟩
set_option maxHeartbeats 1000000 in
set_option maxRecDepth 100000 in
theorem copyCheck_fresh (b : Nat) (w : World) (h0 : w.cell? ⟨b, 0, none⟩ = some (.pointer none)) (hsh : w.shape? b = some (58, 2)) (hfz : w.frozen? ⟨b, 0, none⟩ = false) :
    Calls Tryz.prog 54 #[.pointer (some ⟨b, 0, none⟩)] w fun e w' => e = .returned (.tuple #[]) ∧ w' = w.setCell ⟨b, 0, none⟩ (.pointer (some ⟨b, 0, none⟩)) := by
  obtain ⟨j, hj, hjs⟩ := Option.map_eq_some_iff.1 bld_size
  go_enter Tryz.func54, Tryz.ntmps54
  go_wp2
  rw [Lib.run_to_unsafe w ⟨b, 0, none⟩ Tryz.underlying56 Tryz.underlying87 hj (by rw [hjs]; decide) hsh (Nat.zero_lt_succ 1)]
  simp only [Result.andThen]
  rw [Oper.upon_value]
  go_wp2
  rw [run_callFunc_extern Tryz.func76 (by kernel_rfl) (by kernel_rfl) (by kernel_rfl) (e := Extern.AbiNoEscape.same) (by kernel_rfl)]
  rw [Lib.run_noEscape]
  simp only [Result.andThen]
  rw [Oper.upon_value]
  go_wp2
  rw [Lib.run_from_unsafe w ⟨b, 0, none⟩ Tryz.underlying87 Tryz.underlying56 hj hsh bld_lies]
  simp only [Result.andThen]
  rw [Oper.upon_value]
  go_wp2
  go_end0
  exact ⟨rfl, rfl⟩
abbrev bldT : Nat := 58
noncomputable def E_copyCheck : Entry := fun ivs => match ivs with
  | [.box 0 [.al a, c]] => [(Nat.beq a (4 * bldT + 3) || Nat.beq a (4 * bldT + 1), .tup [], [[.al (4 * bldT + 1), c]])]
  | _ => []
theorem box2_inv {w : World} {com : Nat → Nat} {loc : Nat → Option Value} {cur : List Value} {c1 c2 : CV} {bs : List Nat} (h : CReps w com loc cur [c1, c2] bs) :
    ∃ v1 v2 b1 b2, cur = [v1, v2] ∧ bs = b1 ++ b2 ∧ CRep w com loc v1 c1 b1 ∧ CRep w com loc v2 c2 b2 ∧ v1.oneCell' = true ∧ v2.oneCell' = true := by
  cases h with
  | @cons v1 _ b1 _ _ _ h1 o1 k =>
    cases k with
    | @cons v2 _ b2 _ _ _ h2 o2 k2 =>
      cases k2
      exact ⟨v1, v2, b1, b2, rfl, by rw [List.append_nil], h1, h2, o1, o2⟩
theorem al_inv {w : World} {com : Nat → Nat} {loc : Nat → Option Value} {v : Value} {d : Nat} {bs : List Nat} (h : CRep w com loc v (.al d) bs) : loc d = some v ∧ bs = [] := by
  cases h with
  | al d h => exact ⟨h, rfl⟩
theorem contract_box2 {P : Program} {g : FuncId} {c1 c2 c1' c2' : CV} {res : IV} (h : ∀ (w : World) (com : Nat → Nat) (b t : Nat) (v1 v2 : Value) (b1 b2 : List Nat), w.heap[b]? = some (.cells #[v1, v2] t (0, 0)) → com b = 0 → CRep w com (locS noL (b, t)) v1 c1 b1 → CRep w com (locS noL (b, t)) v2 c2 b2 → v1.oneCell' = true → v2.oneCell' = true → (b :: (b1 ++ b2)).Nodup → (∀ b, w.heap.size ≤ b → com b = 0) →
    Calls P g #[.pointer (some ⟨b, 0, none⟩)] w fun e w' => ∃ v com' v1' v2' b1' b2', e = .returned v ∧ Ext w com w' com' ∧ Fr w.heap.size (fun x => x ∈ b :: (b1 ++ b2)) w w' ∧ (∀ b, w'.heap.size ≤ b → com' b = 0) ∧ (∀ x, x < w.heap.size → x ∉ b :: (b1 ++ b2) → com' x = com x) ∧
      RRep w' com' v res [] ∧ w'.heap[b]? = some (.cells #[v1', v2'] t (0, 0)) ∧ com' b = 0 ∧ CRep w' com' (locS noL (b, t)) v1' c1' b1' ∧ CRep w' com' (locS noL (b, t)) v2' c2' b2' ∧ v1'.oneCell' = true ∧ v2'.oneCell' = true ∧ (b :: (b1' ++ b2')).Nodup ∧ ∀ x ∈ b1' ++ b2', x ∈ b1 ++ b2 ∨ w.heap.size ≤ x) :
    Contract P g [.box 0 [c1, c2]] res [[c1', c2']] := by
  intro w com vals bs hI hnd hfresh hgl
  cases hI with
  | cons h1 h2 =>
    cases h2
    cases h1 with
    | box b o cur t l bs hb hc hC =>
      obtain ⟨v1, v2, b1, b2, rfl, rfl, r1, r2, o1, o2⟩ := box2_inv hC
      rw [List.append_nil] at hnd
      refine (h w com b t v1 v2 b1 b2 hb hc r1 r2 o1 o2 hnd hfresh).mono ?_
      rintro e w' ⟨v, com', v1', v2', b1', b2', rfl, hx, hf, hfr, hk, hr, hb', hc', r1', r2', o1', o2', hnd', hwas⟩
      refine ⟨v, com', [], b :: (b1' ++ b2') ++ [], rfl, hx, by simpa using hf, hfr, by simpa using hk, hr, .box b 0 [v1', v2'] t _ _ (b1' ++ b2') [] [] [] [] hb' hc' ?_ .nil, by simpa using hnd', fun x hx' => ?_⟩
      · have := CReps.cons r1' o1' (CReps.cons r2' o2' (CReps.nil (w := w') (com := com') (loc := locS noL (b, t))))
        simpa using this
      · simp only [List.nil_append, List.append_nil, List.mem_cons] at hx' ⊢
        rcases hx' with rfl | hx'
        · exact .inl (.inl rfl)
        · exact (hwas x hx').imp .inr id
theorem ok_copyCheck : EntryOk Tryz.prog 54 E_copyCheck := ⟨⟨_, Tryz.func54, by kernel_rfl, by kernel_rfl⟩, fun ivs res bxs h => by
  unfold E_copyCheck at h
  split at h
  · rename_i a c
    obtain ⟨hc, he⟩ := pick1 h
    cases he
    rw [Bool.or_eq_true] at hc
    refine contract_box2 fun w com b t v1 v2 b1 b2 hb hcb r1 r2 o1 o2 hnd hfresh => ?_
    obtain ⟨hd, rfl⟩ := al_inv r1
    rw [List.nil_append] at hnd ⊢
    have hlt : b < w.heap.size := (Array.getElem?_eq_some_iff.1 hb).1
    have hfz : w.frozen? ⟨b, 0, none⟩ = false := by
      unfold World.frozen?
      rw [hb]
      rfl
    have h0 : w.cell? ⟨b, 0, none⟩ = some v1 := by rw [cell_of_row w b 0 _ t (0, 0) hb]; rfl
    rcases hc with hc | hc
    · obtain rfl := Nat.eq_of_beq_eq_true hc
      obtain ⟨rfl, rfl⟩ := locS_nil hd
      refine (copyCheck_fresh b w h0 (by unfold World.shape?; rw [hb]; rfl) hfz).mono ?_
      rintro e w' ⟨rfl, rfl⟩
      rw [setCell_eq_setRow w b 0 _ _ _ _ hb]
      have hrow := setRow_heap w b _ (#[Value.pointer none, v2].setIfInBounds 0 (.pointer (some ⟨b, 0, none⟩))) _ _ hb
      have hother : ∀ x, x ≠ b → (w.setRow b (#[Value.pointer none, v2].setIfInBounds 0 (.pointer (some ⟨b, 0, none⟩)))).heap[x]? = w.heap[x]? := fun x hx => setRow_other w b x _ hx
      have hx : Ext w com (w.setRow b (#[Value.pointer none, v2].setIfInBounds 0 (.pointer (some ⟨b, 0, none⟩)))) com := ⟨fun _ => Nat.le_refl _, fun x i hi => by
        have : x ≠ b := fun e => by rw [e, hcb] at hi; cases hi
        unfold World.cell?
        rw [hother x this]⟩
      refine ⟨_, com, .pointer (some ⟨b, 0, none⟩), v2, [], b2, rfl, hx, ⟨rfl, rfl, rfl, by simp [World.setRow], fun x hx' hn => hother x fun e => hn (by rw [e]; simp)⟩, fun x hx' => hfresh x (by simpa [World.setRow] using hx'), fun _ _ _ => rfl, .tup [] [] [] .nil, hrow, hcb, .al _ _ (locS_mk _ _ _), ?_, rfl, o2, by simpa using hnd, fun x hx' => .inl hx'⟩
      exact r2.keep hx (fun _ _ h => h) fun x hx' => ⟨hother x fun e => (List.nodup_cons.1 hnd).1 (e ▸ hx'), rfl⟩
    · obtain rfl := Nat.eq_of_beq_eq_true hc
      obtain ⟨rfl, rfl⟩ := locS_own hd
      refine (copyCheck_used b w h0).mono ?_
      rintro e w' ⟨rfl, rfl⟩
      exact ⟨_, com, _, v2, [], b2, rfl, Ext.refl _ _, Fr.refl _ _ _, hfresh, fun _ _ _ => rfl, .tup [] [] [] .nil, hb, hcb, .al _ _ (locS_mk _ _ _), r2, o1, o2, by simpa using hnd, fun x hx' => .inl hx'⟩
  · cases h⟩
abbrev pBy (s : ByteArray) : PV := .sl s.size (bytesP s)
theorem byteP_inj {a b : UInt8} (h : byteP a = byteP b) : a = b := by
  unfold byteP at h
  injection h with _ h
  exact UInt8.toNat_inj.1 (Int.ofNat.inj h)
theorem map_byte_inj : ∀ {xs ys : List UInt8}, xs.map byteP = ys.map byteP → xs = ys
  | [], [], _ => rfl
  | [], _ :: _, h => by cases h
  | _ :: _, [], h => by cases h
  | x :: xs, y :: ys, h => by
    rw [List.map_cons, List.map_cons] at h
    injection h with h1 h2
    rw [byteP_inj h1, map_byte_inj h2]
theorem pBy_inj (a b : ByteArray) (h : pBy a = pBy b) : a = b := by
  injection h with _ h
  have := map_byte_inj h
  cases a
  cases b
  congr 1
  exact Array.toList_inj.1 this
def shBy (s : ByteArray) : Prop := s.size ≤ 100000000
noncomputable abbrev isBy (p : PV) : Bool := isE pBy shBy p
noncomputable abbrev asBy (p : PV) : ByteArray := asE pBy p
theorem isBy_mk {s : ByteArray} (h : shBy s) : isE pBy shBy (PV.sl s.size (bytesP s)) = true := isE_mk (enc := pBy) h
theorem asBy_mk (s : ByteArray) : asE pBy (PV.sl s.size (bytesP s)) = s := asE_mk pBy_inj s
theorem bytesP_len (s : ByteArray) : (bytesP s).length = s.size := by unfold bytesP; rw [List.length_map]; rfl
theorem bytesP_app (s t : ByteArray) : bytesP s ++ bytesP t = bytesP (s ++ t) := by
  unfold bytesP
  rw [← List.map_append]
  congr 1
noncomputable abbrev bldB (s : ByteArray) : List CV := [.al (4 * bldT + 1), .lst 1 5 s.size (bytesP s) false]
abbrev bld0 : List CV := [.al (4 * bldT + 3), .pv .nils]
noncomputable def E_bldString : Entry := fun ivs => match ivs with
  | [.box 0 [.al a, .lst 1 e n l false]] => [(Nat.beq e 5 && isBy (.sl n l) && Nat.ble 1 n, cS (asBy (.sl n l)), [[.bad, .bad]])]
  | _ => []
theorem cells_of_bytes {w : World} {com : Nat → Nat} : ∀ {l : List UInt8} {xs : List Value}, PReps w com xs (l.map byteP) → xs = Lib.byteCells l
  | [], xs, h => h.of_nil
  | c :: l, xs, h => by
    obtain ⟨v, vs, rfl, hv, hvs⟩ := h.of_cons
    have e : v = .int .u8 (c.toNat : Int) := by
      unfold byteP at hv
      cases hv
      rfl
    rw [e, cells_of_bytes hvs]
    rfl
set_option maxHeartbeats 1000000 in
set_option maxRecDepth 100000 in
theorem bldString_row (b g cap t : Nat) (p : Value) (l : List UInt8) (cur : Array Value) (fz : Nat × Nat) (w : World) (hbk : w.heap[b]? = some (.cells #[p, .slice (some ⟨g, 0, none⟩) l.length cap] t (0, 0))) (hg : w.heap[g]? = some (.cells cur 5 fz))
    (h0 : l ≠ []) (hn : l.length ≤ cap) (hm : cap ≤ maxLen) (hcs : cur.size = cap) (ht : cur.toList.take l.length = Lib.byteCells l) :
    Calls Tryz.prog 36 #[.pointer (some ⟨b, 0, none⟩)] w fun e w' => e = .returned (.string ⟨l.toArray⟩) ∧ w' = w.drew.freeze ⟨g, 0, none⟩ l.length := by
  have hl0 : l.length ≠ 0 := by simpa using h0
  have c1 : w.drew.cell? ⟨b, 1, none⟩ = some (.slice (some ⟨g, 0, none⟩) l.length cap) := by
    rw [cell_of_row w.drew b 1 _ t (0, 0) hbk]; rfl
  have hSD : (Builtin.unsafeSliceData_ #[51] 76 #[.slice (some ⟨g, 0, none⟩) l.length cap]).run Tryz.prog w.drew = .ok (.pointer (some ⟨g, 0, none⟩)) w.drew :=
    Lib.run_unsafeSliceData_row _ _ _ _ _ _ (by omega)
  have hUS : (Builtin.unsafeString_ #[76, 3] 9 #[.pointer (some ⟨g, 0, none⟩), .int .i64 l.length]).run Tryz.prog w.drew = .ok (.string ⟨l.toArray⟩) (w.drew.freeze ⟨g, 0, none⟩ l.length) := by
    refine Lib.run_unsafeString_row w.drew 76 3 9 5 Tryz.underlying76 (by kernel_rfl) g cur.size (by have hg' : w.drew.heap[g]? = some (.cells cur 5 fz) := hg; simp [World.shape?, hg']) l h0 (by omega) (by unfold maxLen at hm; omega) ?_
    intro j x hx
    have hj : j < l.length := (List.getElem?_eq_some_iff.1 hx).1
    have hadd : (⟨g, 0, none⟩ : Addr).add j = ⟨g, j, none⟩ := by unfold Addr.add; split <;> simp_all
    rw [hadd, cell_of_row w.drew g j cur 5 fz hg]
    have e : (cur.toList.take l.length)[j]? = some (.int .u8 x.toNat) := by rw [ht]; simp [Lib.byteCells, hx]
    rw [List.getElem?_take, if_pos hj] at e
    simpa using e
  go_enter Tryz.func36, Tryz.ntmps36
  go_wp2
  go_region
  all_goals (go_wp2; go_ret; exact ⟨rfl, rfl⟩)
theorem freeze_other (w : World) (g n x : Nat) (h : x ≠ g) : (w.freeze ⟨g, 0, none⟩ n).heap[x]? = w.heap[x]? := by
  unfold World.freeze
  split
  · rfl
  · simp [Array.getElem?_modify, Ne.symm h]
theorem freeze_cell (w : World) (g n x i : Nat) : (w.freeze ⟨g, 0, none⟩ n).cell? ⟨x, i, none⟩ = w.cell? ⟨x, i, none⟩ := by
  by_cases h : x = g
  · subst h
    unfold World.freeze
    split
    · rfl
    · unfold World.cell?
      simp only [Array.getElem?_modify, if_true]
      cases hx : w.heap[x]? with
      | none => rfl
      | some o => cases o <;> rfl
  · unfold World.cell?
    rw [freeze_other w g n x h]
theorem ok_bldString : EntryOk Tryz.prog 36 E_bldString := ⟨⟨_, Tryz.func36, by kernel_rfl, by kernel_rfl⟩, fun ivs res bxs h => by
  unfold E_bldString at h
  split at h
  · rename_i a e n l
    obtain ⟨hc, he⟩ := pick1 h
    cases he
    obtain ⟨hc1, k2⟩ := andE hc
    obtain ⟨k0, k1⟩ := andE hc1
    obtain rfl := Nat.eq_of_beq_eq_true k0
    obtain ⟨s, q_s, h_s⟩ := isE_inv k1
    injection q_s with qa qb
    subst qa
    subst qb
    have hn1 : 1 ≤ s.size := Nat.le_of_ble_eq_true k2
    have e_s : asBy (.sl s.size (bytesP s)) = s := asBy_mk s
    rw [e_s]
    have hlen : s.data.toList.length = s.size := Array.length_toList
    have hne : s.data.toList ≠ [] := fun e => by rw [e] at hlen; rw [← hlen] at hn1; cases hn1
    refine contract_box2 fun w com b t v1 v2 b1 b2 hb hcb r1 r2 o1 o2 hnd hfresh => ?_
    obtain ⟨hd, rfl⟩ := al_inv r1
    rw [List.nil_append] at hnd ⊢
    cases r2 with
    | lst _ _ _ _ _ xs hL =>
      have hxs : xs = Lib.byteCells s.data.toList := cells_of_bytes (l := s.data.toList) hL.reps
      rcases hL.own.2 with ⟨rfl, h0⟩ | ⟨g, cap, cur, rfl, _, hg, hcap, hmax, hcs, htake⟩
      · omega
      · rw [Nat.mul_one] at hcs htake
        obtain ⟨fz, hg, hf⟩ := hg
        have hbg : b ≠ g := fun e => (List.nodup_cons.1 hnd).1 (by simp [Value.ownBlock, e])
        have hrun := bldString_row b g cap t v1 s.data.toList cur _ w (by rw [hlen]; exact hb) (by rw [rowT_lt (e := 5) (by decide)] at hg; exact hg) hne (by rw [hlen]; exact hcap) hmax hcs (by rw [hlen, htake, hxs])
        refine hrun.mono ?_
        rintro e w' ⟨rfl, rfl⟩
        have hb0 := Lib.below_freeze (Below.drew (Below.refl 0 w)) (p := ⟨g, 0, none⟩) (Nat.zero_le _) s.data.toList.length
        have hx : Ext w com (w.drew.freeze ⟨g, 0, none⟩ s.data.toList.length) com := ⟨fun _ => Nat.le_refl _, fun x i hi => freeze_cell w.drew g _ x i⟩
        refine ⟨_, com, v1, .slice (some ⟨g, 0, none⟩) s.size cap, [], [], rfl, hx, ⟨hb0.os, hb0.tape, hb0.output, hb0.size, fun x hx' hn => freeze_other w.drew g _ x fun e => hn (by rw [e]; simp [Value.ownBlock])⟩, fun x hx' => hfresh x (Nat.le_trans hb0.size hx'), fun _ _ _ => rfl, .one _ _ _ (.cv _ _ _ (.pv _ _ ?_)), (freeze_other w.drew g _ b hbg).trans hb, hcb, .bad _, .bad _, o1, o2, by simp, by simp⟩
        exact .str s
  · cases h⟩
end
section
open Go.RowKit
set_option linter.unusedVariables false
set_option linter.unusedSimpArgs false
noncomputable def vyb0 : List (FuncId × Entry) := [(54, E_copyCheck)]
abbrev lp_ws : List (Nat × List Nat × List Nat) := [(1000000, [], [12])]
noncomputable def q_ws0 (br : Br) (s : ByteArray) := evB br Tryz.prog vyb0 lp_ws LO0 Tryz.f32 [.box 0 bld0, cS s]
noncomputable def q_ws (br : Br) (t s : ByteArray) := evB br Tryz.prog vyb0 lp_ws LO0 Tryz.f32 [.box 0 (bldB t), cS s]
noncomputable def E_bldWrite : Entry := fun ivs => match ivs with
  | [.box 0 [.al a, .pv .nils], .cv (.pv (.str s))] => [(Nat.beq a (4 * bldT + 3) && holds (s.size ≤ 100000000), .tup [cI s.size, .cv .bad], [bldB s])]
  | [.box 0 [.al a, .lst 1 e n l false], .cv (.pv (.str s))] => [(Nat.beq a (4 * bldT + 1) && Nat.beq e 5 && isBy (.sl n l) && holds ((asBy (.sl n l)).size + s.size ≤ 100000000), .tup [cI s.size, .cv .bad], [bldB (asBy (.sl n l) ++ s)])]
  | _ => []
end
section
set_option linter.unusedVariables false
set_option maxRecDepth 100000
theorem q_ws_eq (t : ByteArray) (s : ByteArray) : q_ws brC t s =
 brC (Nat.beq (List.length (bytesP s)) (ByteArray.size s * 1) && (decide (ByteArray.size t + ByteArray.size s ≤ 140737488351232) && decide ((ByteArray.size t + ByteArray.size s) * 1 ≤ 140737488355328)))
 (some ((IV.tup [IV.cv (CV.pv (PV.int IntKind.i64 (↑(ByteArray.size s) : Int))), IV.cv CV.bad], [[CV.al 233, CV.lst 1 5 (ByteArray.size t + ByteArray.size s) (bytesP t ++ bytesP s) false]])))
 (none) := by kernel_rfl
theorem q_ws0_eq (s : ByteArray) : q_ws0 brC s =
 brC (Nat.beq (List.length (bytesP s)) (ByteArray.size s * 1) && (decide (ByteArray.size s ≤ 140737488351232) && decide (ByteArray.size s * 1 ≤ 140737488355328)))
 (some ((IV.tup [IV.cv (CV.pv (PV.int IntKind.i64 (↑(ByteArray.size s) : Int))), IV.cv CV.bad], [[CV.al 233, CV.lst 1 5 (ByteArray.size s) (bytesP s) false]])))
 (none) := by kernel_rfl
end
section
open Go.RowKit
set_option linter.unusedVariables false
set_option linter.unusedSimpArgs false
set_option maxRecDepth 100000
theorem ok_vyb0 : EntriesOk Tryz.prog vyb0 := ⟨ok_copyCheck, trivial⟩
theorem bytesP_beq (s : ByteArray) : Nat.beq (bytesP s).length (s.size * 1) = true := by rw [bytesP_len, Nat.mul_one]; exact Nat.beq_refl _
theorem ok_bldWrite : EntryOk Tryz.prog 32 E_bldWrite := entry_of mix ok_vyb0 (lp := lp_ws) (LO := LO0) ⟨Tryz.func32, by kernel_rfl, by kernel_rfl⟩ (by kernel_rfl) fun ivs res bxs h => by
  unfold E_bldWrite at h
  split at h
  · rename_i a s
    obtain ⟨hc, he⟩ := pick1 h
    cases he
    obtain ⟨k0, k1⟩ := andE hc
    obtain rfl := Nat.eq_of_beq_eq_true k0
    have k1 := holds_inv k1
    refine ⟨noLoop (by kernel_rfl), (q_ws0_eq s).trans ?_⟩
    rw [bytesP_beq, dT (show s.size ≤ 140737488351232 by omega), dT (show s.size * 1 ≤ 140737488355328 by omega)]
    rfl
  · rename_i a e n l s
    obtain ⟨hc, he⟩ := pick1 h
    cases he
    obtain ⟨hc, k3⟩ := andE hc
    obtain ⟨hc, k2⟩ := andE hc
    obtain ⟨k0, k1⟩ := andE hc
    obtain rfl := Nat.eq_of_beq_eq_true k0
    obtain rfl := Nat.eq_of_beq_eq_true k1
    obtain ⟨t, q_t, h_t⟩ := isE_inv k2
    injection q_t with qa qb
    subst qa
    subst qb
    have e_t : asBy (.sl t.size (bytesP t)) = t := asBy_mk t
    rw [e_t] at k3 ⊢
    have k3 := holds_inv k3
    refine ⟨noLoop (by kernel_rfl), (q_ws_eq t s).trans ?_⟩
    rw [bytesP_beq, dT (show t.size + s.size ≤ 140737488351232 by omega), dT (show (t.size + s.size) * 1 ≤ 140737488355328 by omega), bytesP_app, show t.size + s.size = (t ++ s).size from ByteArray.size_append.symm]
    rfl
  · cases h
end
section
open Go.RowKit
set_option linter.unusedVariables false
set_option linter.unusedSimpArgs false
noncomputable def kcb0 : List (FuncId × Entry) := (72, E_longL) :: (71, E_locationOk) :: [(53, E_cmpLoc)]
noncomputable def q_imgOk (br : Br) (i : ImT) := evB br Tryz.prog kcb0 [] LO0 Tryz.f52 [cP ((pIm i))]
noncomputable def E_imgOk : Entry := fun ivs => match ivs with
  | [.cv (.pv (p_i))] =>
    [(isIm p_i, cB (imgB (asIm p_i)), [])]
  | _ => []
noncomputable def kcb1 : List (FuncId × Entry) := (52, E_imgOk) :: kcb0
def imChainK : Option ImT → List ImT → Bool
  | _, [] => true
  | p, i :: l => imgB i && (match p with | none => true | some j => decide (cmpLoc j.name j.subs i.name i.subs < 0)) && imChainK (some i) l
def prevK (l : List ImT) (i : Nat) : Option ImT := if i = 0 then none else l[i - 1]?
abbrev lp_imgsOk : List (Nat × List Nat × List Nat) := [(2, [0, 5, 6, 7], [0, 2])]
noncomputable def LO_imgsOk_2 (ls : LS) : List (Bool × Ex × LS) := match ls with
  | [(.pv (p_l), none), (.pv (p_u), none), (.pv (.int .i64 n), none), (.pv (.int .i64 i), none)] =>
    [(isIms p_l && isIms p_u && (n == ((asIms p_u).length)) && (i == (0)) && holds ((asIms p_l) = (asIms p_u)) && !imChainK none (asIms p_u), .ret, [aP (pIms (asIms p_u)), aB false]),
     (isIms p_l && isIms p_u && (n == ((asIms p_u).length)) && (i == (0)) && holds ((asIms p_l) = (asIms p_u)) && imChainK none (asIms p_u), .exit 0, [aP (pIms (asIms p_u)), aX])]
  | _ => []
noncomputable def LO_imgsOk : LoopT := fun k ls => bif Nat.beq k 2 then LO_imgsOk_2 ls else []
noncomputable def r_imgsOk (br : Br) (l : List ImT) (u : List ImT) (i : Int) := rdB br Tryz.prog kcb1 lp_imgsOk LO_imgsOk Tryz.f31 2 [] [aP ((pIms l)), aP ((pIms u)), aP (.int .i64 (u.length)), aP (.int .i64 i)]
noncomputable def q_imgsOk (br : Br) (l : List ImT) := evB br Tryz.prog kcb1 lp_imgsOk LO_imgsOk Tryz.f31 [cP ((pIms l))]
noncomputable def E_imgsOk : Entry := fun ivs => match ivs with
  | [.cv (.pv (p_l))] =>
    [(isIms p_l, cB (imgsB (asIms p_l)), [])]
  | _ => []
noncomputable def kcb2 : List (FuncId × Entry) := (22, E_l03Place) :: [(43, E_l03Less)]
abbrev lp_simgs : List (Nat × List Nat × List Nat) := [(2, [0, 3], [0, 2])]
noncomputable def LO_simgs_2 (ls : LS) : List (Bool × Ex × LS) := match ls with
  | [(.pv (p_l), none), (.pv (.int .i64 i), none)] =>
    [(isIms p_l && (i == 0) && imChain none ((asIms p_l).take 241), .exit 0, [aP (pIms (asIms p_l)), aX]),
     (isIms p_l && (i == 0), .ret, [aP (pIms (asIms p_l)), aB false])]
  | _ => []
noncomputable def LO_simgs : LoopT := fun k ls => bif Nat.beq k 2 then LO_simgs_2 ls else []
noncomputable def r_simgs (br : Br) (l : List ImT) (i : Int) := rdB br Tryz.prog kcb2 lp_simgs LO_simgs Tryz.f24 2 [] [aP ((pIms l)), aP (.int .i64 i)]
noncomputable def q_simgs (br : Br) (l : List ImT) := evB br Tryz.prog kcb2 lp_simgs LO_simgs Tryz.f24 [cP ((pIms l))]
noncomputable def shortV (s : ByteArray) : ByteArray := hidS (litV (s.size : Int) 1 ++ s)
noncomputable def kcb3 : List (FuncId × Entry) := [(33, E_little)]
noncomputable def q_short (br : Br) (s : ByteArray) := evB br Tryz.prog kcb3 [] LO0 Tryz.f55 [cS s]
noncomputable def E_short : Entry := fun ivs => match ivs with
  | [.cv (.pv (.str s))] => [(decide (s.size ≤ 1000000), cS (shortV s), [])]
  | _ => []
noncomputable def q_byte (br : Br) (n : Int) := evB br Tryz.prog [] [] LO0 Tryz.f25 [cI n]
noncomputable def E_byte : Entry := fun ivs => match ivs with
  | [.cv (.pv (.int .i64 n))] => [(decide (0 ≤ n), cS (litV n 1), [])]
  | _ => []
noncomputable def kcb4 : List (FuncId × Entry) := [(25, E_byte)]
noncomputable def q_stext (br : Br) (s : ByteArray) := evB br Tryz.prog kcb4 [] LO0 Tryz.f26 [cS s]
def kindI (i : ImT) : Int := (if i.had = true then 1 else 0) + (if i.has = true then 2 else 0)
noncomputable def valsI (i : ImT) : ByteArray := (if i.had = true then shortV i.was else ⟨#[]⟩) ++ (if i.has = true then shortV i.is else ⟨#[]⟩)
noncomputable def imB (i : ImT) : ByteArray := shortV (keyV2 i.name i.subs) ++ litV (kindI i) 1 ++ valsI i
noncomputable def imV (i : ImT) : ByteArray := hidS (imB i)
noncomputable def kcb5 : List (FuncId × Entry) := (55, E_short) :: (56, E_KeyOf2) :: kcb3
noncomputable def q_putIm (br : Br) (i : ImT) := evB br Tryz.prog kcb5 [] LO0 Tryz.f35 [cP (pIm i)]
noncomputable def E_putIm : Entry := fun ivs => match ivs with
  | [.cv (.pv (p_i))] => [(isIm p_i, cS (imV (asIm p_i)), [])]
  | _ => []
noncomputable def imsT : ByteArray → List ImT → ByteArray
  | s, [] => s
  | s, x :: t => imsT (s ++ imV x) t
noncomputable def putI (l : List ImT) : ByteArray := hidS (if imgsB l = true then imsT (litV (l.length : Int) 1) l else ⟨#[]⟩)
noncomputable def q_cntIm (br : Br) (n : Nat) (l : List PV) := evB br Tryz.prog [] [] LO0 Tryz.f34 [cP (.sl n l)]
noncomputable def E_cntIm : Entry := fun ivs => match ivs with
  | [.cv (.pv (.sl n l))] => [(true, cI n, [])]
  | _ => []
noncomputable def kcb6 : List (FuncId × Entry) := (31, E_imgsOk) :: (35, E_putIm) :: (34, E_cntIm) :: (32, E_bldWrite) :: (36, E_bldString) :: kcb3
noncomputable abbrev aBl (slot : Nat) (s : ByteArray) : AV × Option Ob := aBx slot (bldB s)
abbrev lp_putIms : List (Nat × List Nat × List Nat) := [(6, [0, 3, 13, 14, 15], [0, 3]), (1000000, [3], [])]
noncomputable def LO_putIms_6 (ls : LS) : List (Bool × Ex × LS) := match ls with
  | [(.pv p, none), (.ptr y 0, some (.box [.al q, .lst 1 e2 n2 l2 false])), (.pv p2, none), (.pv (.int .i64 m), none), (.pv (.int .i64 i), none)] =>
    [(isIms p && isIms p2 && holds (asIms p = asIms p2) && Nat.beq y 12288 && Nat.beq q (4 * bldT + 1) && Nat.beq e2 5 && isBy (.sl n2 l2) && (m == ((asIms p2).length : Int)) && (i == 0) && imgsB (asIms p2) && holds ((asBy (.sl n2 l2)).size ≤ 10), .exit 0, [aP (pIms (asIms p2)), aBl 3 (imsT (asBy (.sl n2 l2)) (asIms p2))])]
  | _ => []
noncomputable def LO_putIms : LoopT := fun k ls => bif Nat.beq k 6 then LO_putIms_6 ls else []
noncomputable def r_putIms (br : Br) (l u : List ImT) (s : ByteArray) (i : Int) := rdB br Tryz.prog kcb6 lp_putIms LO_putIms Tryz.f16 6 [] [aP (pIms l), aBl 3 s, aP (pIms u), aI u.length, aI i]
noncomputable def q_putIms (br : Br) (l : List ImT) := evB br Tryz.prog kcb6 lp_putIms LO_putIms Tryz.f16 [cP (pIms l)]
noncomputable def E_putIms : Entry := fun ivs => match ivs with
  | [.cv (.pv p)] => [(isIms p, cS (putI (asIms p)), [])]
  | _ => []
end
section
set_option linter.unusedVariables false
set_option maxRecDepth 100000
theorem q_putIm_eq (i : ImT) : q_putIm brC i =
 brC (ImT.had i)
 (brC (decide (ByteArray.size (ImT.was i) ≤ 1000000))
 (brC (decide (0 + ByteArray.size (shortV (ImT.was i)) ≤ 9223372036854775807) && true)
 (brC (ImT.has i)
 (brC (decide (ByteArray.size (ImT.is i) ≤ 1000000))
 (brC (decide (ByteArray.size ({ data := #[] } ++ shortV (ImT.was i)) + ByteArray.size (shortV (ImT.is i)) ≤ 9223372036854775807) && true)
 (brC (decide (ByteArray.size (ImT.name i) ≤ 1000000) && isL (PV.sl (List.length (ImT.subs i)) (List.map PV.str (ImT.subs i))))
 (brC (decide (ByteArray.size (keyV2 (ImT.name i) (asL (PV.sl (List.length (ImT.subs i)) (List.map PV.str (ImT.subs i))))) ≤ 1000000))
 (brC (decide (ByteArray.size (shortV (keyV2 (ImT.name i) (asL (PV.sl (List.length (ImT.subs i)) (List.map PV.str (ImT.subs i)))))) + ByteArray.size (litV (IntKind.wrap IntKind.i64 (IntKind.wrap IntKind.i64 (0 + 1) + 2)) 1) ≤ 9223372036854775807) && true)
 (brC (decide (ByteArray.size (shortV (keyV2 (ImT.name i) (asL (PV.sl (List.length (ImT.subs i)) (List.map PV.str (ImT.subs i))))) ++ litV (IntKind.wrap IntKind.i64 (IntKind.wrap IntKind.i64 (0 + 1) + 2)) 1) + ByteArray.size ({ data := #[] } ++ shortV (ImT.was i) ++ shortV (ImT.is i)) ≤ 9223372036854775807) && true)
 (some ((IV.cv (CV.pv (PV.str (shortV (keyV2 (ImT.name i) (asL (PV.sl (List.length (ImT.subs i)) (List.map PV.str (ImT.subs i))))) ++ litV (IntKind.wrap IntKind.i64 (IntKind.wrap IntKind.i64 (0 + 1) + 2)) 1 ++ ({ data := #[] } ++ shortV (ImT.was i) ++ shortV (ImT.is i))))), [])))
 (none))
 (none))
 (none))
 (none))
 (none))
 (none))
 (brC (decide (ByteArray.size (ImT.name i) ≤ 1000000) && isL (PV.sl (List.length (ImT.subs i)) (List.map PV.str (ImT.subs i))))
 (brC (decide (ByteArray.size (keyV2 (ImT.name i) (asL (PV.sl (List.length (ImT.subs i)) (List.map PV.str (ImT.subs i))))) ≤ 1000000))
 (brC (decide (ByteArray.size (shortV (keyV2 (ImT.name i) (asL (PV.sl (List.length (ImT.subs i)) (List.map PV.str (ImT.subs i)))))) + ByteArray.size (litV (IntKind.wrap IntKind.i64 (0 + 1)) 1) ≤ 9223372036854775807) && true)
 (brC (decide (ByteArray.size (shortV (keyV2 (ImT.name i) (asL (PV.sl (List.length (ImT.subs i)) (List.map PV.str (ImT.subs i))))) ++ litV (IntKind.wrap IntKind.i64 (0 + 1)) 1) + ByteArray.size ({ data := #[] } ++ shortV (ImT.was i)) ≤ 9223372036854775807) && true)
 (some ((IV.cv (CV.pv (PV.str (shortV (keyV2 (ImT.name i) (asL (PV.sl (List.length (ImT.subs i)) (List.map PV.str (ImT.subs i))))) ++ litV (IntKind.wrap IntKind.i64 (0 + 1)) 1 ++ ({ data := #[] } ++ shortV (ImT.was i))))), [])))
 (none))
 (none))
 (none))
 (none)))
 (none))
 (none))
 (brC (ImT.has i)
 (brC (decide (ByteArray.size (ImT.is i) ≤ 1000000))
 (brC (decide (0 + ByteArray.size (shortV (ImT.is i)) ≤ 9223372036854775807) && true)
 (brC (decide (ByteArray.size (ImT.name i) ≤ 1000000) && isL (PV.sl (List.length (ImT.subs i)) (List.map PV.str (ImT.subs i))))
 (brC (decide (ByteArray.size (keyV2 (ImT.name i) (asL (PV.sl (List.length (ImT.subs i)) (List.map PV.str (ImT.subs i))))) ≤ 1000000))
 (brC (decide (ByteArray.size (shortV (keyV2 (ImT.name i) (asL (PV.sl (List.length (ImT.subs i)) (List.map PV.str (ImT.subs i)))))) + ByteArray.size (litV (IntKind.wrap IntKind.i64 (0 + 2)) 1) ≤ 9223372036854775807) && true)
 (brC (decide (ByteArray.size (shortV (keyV2 (ImT.name i) (asL (PV.sl (List.length (ImT.subs i)) (List.map PV.str (ImT.subs i))))) ++ litV (IntKind.wrap IntKind.i64 (0 + 2)) 1) + ByteArray.size ({ data := #[] } ++ shortV (ImT.is i)) ≤ 9223372036854775807) && true)
 (some ((IV.cv (CV.pv (PV.str (shortV (keyV2 (ImT.name i) (asL (PV.sl (List.length (ImT.subs i)) (List.map PV.str (ImT.subs i))))) ++ litV (IntKind.wrap IntKind.i64 (0 + 2)) 1 ++ ({ data := #[] } ++ shortV (ImT.is i))))), [])))
 (none))
 (none))
 (none))
 (none))
 (none))
 (none))
 (brC (decide (ByteArray.size (ImT.name i) ≤ 1000000) && isL (PV.sl (List.length (ImT.subs i)) (List.map PV.str (ImT.subs i))))
 (brC (decide (ByteArray.size (keyV2 (ImT.name i) (asL (PV.sl (List.length (ImT.subs i)) (List.map PV.str (ImT.subs i))))) ≤ 1000000))
 (brC (decide (ByteArray.size (shortV (keyV2 (ImT.name i) (asL (PV.sl (List.length (ImT.subs i)) (List.map PV.str (ImT.subs i)))))) + ByteArray.size (litV 0 1) ≤ 9223372036854775807) && true)
 (brC (decide (ByteArray.size (shortV (keyV2 (ImT.name i) (asL (PV.sl (List.length (ImT.subs i)) (List.map PV.str (ImT.subs i))))) ++ litV 0 1) + 0 ≤ 9223372036854775807) && true)
 (some ((IV.cv (CV.pv (PV.str (shortV (keyV2 (ImT.name i) (asL (PV.sl (List.length (ImT.subs i)) (List.map PV.str (ImT.subs i))))) ++ litV 0 1 ++ { data := #[] }))), [])))
 (none))
 (none))
 (none))
 (none))) := by kernel_rfl
theorem q_cntIm_eq (n : Nat) (l : List PV) : q_cntIm brC n l =
 some ((IV.cv (CV.pv (PV.int IntKind.i64 (↑n : Int))), [])) := by kernel_rfl
theorem q_imgsOk_eq (l : List ImT) : q_imgsOk brC l =
 brC (isIms (pIms l) && isIms (pIms l) && (↑(List.length l) : Int) == (↑(List.length (asIms (pIms l))) : Int) && 0 == 0 && holds (asIms (pIms l) = asIms (pIms l)) && !imChainK none (asIms (pIms l)))
 (some ((IV.cv (CV.pv (PV.bool false)), [])))
 (brC (isIms (pIms l) && isIms (pIms l) && (↑(List.length l) : Int) == (↑(List.length (asIms (pIms l))) : Int) && 0 == 0 && holds (asIms (pIms l) = asIms (pIms l)) && imChainK none (asIms (pIms l)))
 (some ((IV.cv (CV.pv (PV.bool (decide ((↑(List.length (asIms (pIms l))) : Int) ≤ 240)))), [])))
 (none)) := by kernel_rfl
theorem q_imgOk_eq (i : ImT) : q_imgOk brC i =
 brC (decide (ByteArray.size (ImT.name i) ≤ 1000000) && isL (PV.sl (List.length (ImT.subs i)) (List.map PV.str (ImT.subs i))))
 (brC (!placeB (ImT.name i) (asL (PV.sl (List.length (ImT.subs i)) (List.map PV.str (ImT.subs i)))))
 (some ((IV.cv (CV.pv (PV.bool false)), [])))
 (brC (isL (PV.sl 2 [PV.str (ImT.was i), PV.str (ImT.is i)]))
 (brC (decide (frstL (asL (PV.sl 2 [PV.str (ImT.was i), PV.str (ImT.is i)])) < List.length (asL (PV.sl 2 [PV.str (ImT.was i), PV.str (ImT.is i)]))))
 (some ((IV.cv (CV.pv (PV.bool false)), [])))
 (brC (!ImT.had i)
 (brC (!ByteArray.toList (ImT.was i) == [])
 (some ((IV.cv (CV.pv (PV.bool false)), [])))
 (brC (!ImT.has i)
 (brC (!ByteArray.toList (ImT.is i) == [])
 (some ((IV.cv (CV.pv (PV.bool false)), [])))
 (brC (!ImT.had i == ImT.has i)
 (some ((IV.cv (CV.pv (PV.bool true)), [])))
 (some ((IV.cv (CV.pv (PV.bool !ByteArray.toList (ImT.was i) == ByteArray.toList (ImT.is i))), [])))))
 (brC (!ImT.had i == ImT.has i)
 (some ((IV.cv (CV.pv (PV.bool true)), [])))
 (some ((IV.cv (CV.pv (PV.bool !ByteArray.toList (ImT.was i) == ByteArray.toList (ImT.is i))), []))))))
 (brC (!ImT.has i)
 (brC (!ByteArray.toList (ImT.is i) == [])
 (some ((IV.cv (CV.pv (PV.bool false)), [])))
 (brC (!ImT.had i == ImT.has i)
 (some ((IV.cv (CV.pv (PV.bool true)), [])))
 (some ((IV.cv (CV.pv (PV.bool !ByteArray.toList (ImT.was i) == ByteArray.toList (ImT.is i))), [])))))
 (brC (!ImT.had i == ImT.has i)
 (some ((IV.cv (CV.pv (PV.bool true)), [])))
 (some ((IV.cv (CV.pv (PV.bool !ByteArray.toList (ImT.was i) == ByteArray.toList (ImT.is i))), [])))))))
 (none)))
 (none) := by kernel_rfl
theorem r_putIms_eq (l : List ImT) (u : List ImT) (s : ByteArray) (i : Int) : r_putIms brC l u s i =
 brC (decide (i < (↑(List.length u) : Int)))
 (brC (decide (0 ≤ i) && decide (i < (↑(List.length u) : Int)))
 (brC (Nat.ble 6 (List.length (List.drop (Int.toNat i * 6) (encIm u))) && (PV.isStr (List.headD (List.drop (Int.toNat i * 6) (encIm u)) PV.nilp) && (PV.isSl (List.headD (List.tail (List.drop (Int.toNat i * 6) (encIm u))) PV.nilp) && (PV.isBool (List.headD (List.tail (List.tail (List.drop (Int.toNat i * 6) (encIm u)))) PV.nilp) && (PV.isStr (List.headD (List.tail (List.tail (List.tail (List.drop (Int.toNat i * 6) (encIm u))))) PV.nilp) && (PV.isBool (List.headD (List.tail (List.tail (List.tail (List.tail (List.drop (Int.toNat i * 6) (encIm u)))))) PV.nilp) && (PV.isStr (List.headD (List.tail (List.tail (List.tail (List.tail (List.tail (List.drop (Int.toNat i * 6) (encIm u))))))) PV.nilp) && true && true) && true) && true) && true) && true) && true) && true)
 (brC (isIm (PV.agg [PV.str (PV.asStr (List.headD (List.drop (Int.toNat i * 6) (encIm u)) PV.nilp)), PV.sl (PV.slN (List.headD (List.tail (List.drop (Int.toNat i * 6) (encIm u))) PV.nilp)) (PV.slL (List.headD (List.tail (List.drop (Int.toNat i * 6) (encIm u))) PV.nilp)), PV.bool (PV.asBool (List.headD (List.tail (List.tail (List.drop (Int.toNat i * 6) (encIm u)))) PV.nilp)), PV.str (PV.asStr (List.headD (List.tail (List.tail (List.tail (List.drop (Int.toNat i * 6) (encIm u))))) PV.nilp)), PV.bool (PV.asBool (List.headD (List.tail (List.tail (List.tail (List.tail (List.drop (Int.toNat i * 6) (encIm u)))))) PV.nilp)), PV.str (PV.asStr (List.headD (List.tail (List.tail (List.tail (List.tail (List.tail (List.drop (Int.toNat i * 6) (encIm u))))))) PV.nilp))]))
 (brC (Nat.beq 233 233 && Nat.beq 5 5 && isBy (PV.sl (ByteArray.size s) (bytesP s)) && holds (ByteArray.size (asBy (PV.sl (ByteArray.size s) (bytesP s))) + ByteArray.size (imV (asIm (PV.agg [PV.str (PV.asStr (List.headD (List.drop (Int.toNat i * 6) (encIm u)) PV.nilp)), PV.sl (PV.slN (List.headD (List.tail (List.drop (Int.toNat i * 6) (encIm u))) PV.nilp)) (PV.slL (List.headD (List.tail (List.drop (Int.toNat i * 6) (encIm u))) PV.nilp)), PV.bool (PV.asBool (List.headD (List.tail (List.tail (List.drop (Int.toNat i * 6) (encIm u)))) PV.nilp)), PV.str (PV.asStr (List.headD (List.tail (List.tail (List.tail (List.drop (Int.toNat i * 6) (encIm u))))) PV.nilp)), PV.bool (PV.asBool (List.headD (List.tail (List.tail (List.tail (List.tail (List.drop (Int.toNat i * 6) (encIm u)))))) PV.nilp)), PV.str (PV.asStr (List.headD (List.tail (List.tail (List.tail (List.tail (List.tail (List.drop (Int.toNat i * 6) (encIm u))))))) PV.nilp))]))) ≤ 100000000))
 (some (Sum.inl [(AV.pv (PV.sl (List.length l) (encIm l)), none), (AV.ptr 12288 0, some (Ob.box [CV.al 233, CV.lst 1 5 (ByteArray.size (asBy (PV.sl (ByteArray.size s) (bytesP s)) ++ imV (asIm (PV.agg [PV.str (PV.asStr (List.headD (List.drop (Int.toNat i * 6) (encIm u)) PV.nilp)), PV.sl (PV.slN (List.headD (List.tail (List.drop (Int.toNat i * 6) (encIm u))) PV.nilp)) (PV.slL (List.headD (List.tail (List.drop (Int.toNat i * 6) (encIm u))) PV.nilp)), PV.bool (PV.asBool (List.headD (List.tail (List.tail (List.drop (Int.toNat i * 6) (encIm u)))) PV.nilp)), PV.str (PV.asStr (List.headD (List.tail (List.tail (List.tail (List.drop (Int.toNat i * 6) (encIm u))))) PV.nilp)), PV.bool (PV.asBool (List.headD (List.tail (List.tail (List.tail (List.tail (List.drop (Int.toNat i * 6) (encIm u)))))) PV.nilp)), PV.str (PV.asStr (List.headD (List.tail (List.tail (List.tail (List.tail (List.tail (List.drop (Int.toNat i * 6) (encIm u))))))) PV.nilp))])))) (bytesP (asBy (PV.sl (ByteArray.size s) (bytesP s)) ++ imV (asIm (PV.agg [PV.str (PV.asStr (List.headD (List.drop (Int.toNat i * 6) (encIm u)) PV.nilp)), PV.sl (PV.slN (List.headD (List.tail (List.drop (Int.toNat i * 6) (encIm u))) PV.nilp)) (PV.slL (List.headD (List.tail (List.drop (Int.toNat i * 6) (encIm u))) PV.nilp)), PV.bool (PV.asBool (List.headD (List.tail (List.tail (List.drop (Int.toNat i * 6) (encIm u)))) PV.nilp)), PV.str (PV.asStr (List.headD (List.tail (List.tail (List.tail (List.drop (Int.toNat i * 6) (encIm u))))) PV.nilp)), PV.bool (PV.asBool (List.headD (List.tail (List.tail (List.tail (List.tail (List.drop (Int.toNat i * 6) (encIm u)))))) PV.nilp)), PV.str (PV.asStr (List.headD (List.tail (List.tail (List.tail (List.tail (List.tail (List.drop (Int.toNat i * 6) (encIm u))))))) PV.nilp))])))) false])), (AV.pv (PV.sl (List.length u) (encIm u)), none), (AV.pv (PV.int IntKind.i64 (↑(List.length u) : Int)), none), (AV.pv (PV.int IntKind.i64 (IntKind.wrap IntKind.i64 (i + 1))), none)]))
 (none))
 (none))
 (none))
 (none))
 (some (Sum.inr (Ex.exit 0, [(AV.pv (PV.sl (List.length l) (encIm l)), none), (AV.ptr 12288 0, some (Ob.box [CV.al 233, CV.lst 1 5 (ByteArray.size s) (bytesP s) false]))]))) := by kernel_rfl
theorem q_byte_eq (n : Int) : q_byte brC n =
 some ((IV.cv (CV.pv (PV.str { data := #[UInt8.ofNat (Int.toNat (IntKind.wrap IntKind.u8 n))] })), [])) := by kernel_rfl
theorem q_short_eq (s : ByteArray) : q_short brC s =
 brC (decide (ByteArray.size (litV (↑(ByteArray.size s) : Int) 1) + ByteArray.size s ≤ 9223372036854775807) && true)
 (some ((IV.cv (CV.pv (PV.str (litV (↑(ByteArray.size s) : Int) 1 ++ s))), [])))
 (none) := by kernel_rfl
theorem q_stext_eq (s : ByteArray) : q_stext brC s =
 brC (decide (ByteArray.size (litV (↑(ByteArray.size s) : Int) 1) + ByteArray.size s ≤ 9223372036854775807) && true)
 (some ((IV.cv (CV.pv (PV.str (litV (↑(ByteArray.size s) : Int) 1 ++ s))), [])))
 (none) := by kernel_rfl
theorem r_simgs_eq (l : List ImT) (i : Int) : r_simgs brC l i =
 brC (decide (i < (↑(List.length l) : Int)))
 (brC (decide (i ≤ 240))
 (brC (decide (0 ≤ i) && decide (i < (↑(List.length l) : Int)))
 (brC (Nat.ble 6 (List.length (List.drop (Int.toNat i * 6) (encIm l))) && (PV.isStr (List.headD (List.drop (Int.toNat i * 6) (encIm l)) PV.nilp) && (PV.isSl (List.headD (List.tail (List.drop (Int.toNat i * 6) (encIm l))) PV.nilp) && (PV.isBool (List.headD (List.tail (List.tail (List.drop (Int.toNat i * 6) (encIm l)))) PV.nilp) && (PV.isStr (List.headD (List.tail (List.tail (List.tail (List.drop (Int.toNat i * 6) (encIm l))))) PV.nilp) && (PV.isBool (List.headD (List.tail (List.tail (List.tail (List.tail (List.drop (Int.toNat i * 6) (encIm l)))))) PV.nilp) && (PV.isStr (List.headD (List.tail (List.tail (List.tail (List.tail (List.tail (List.drop (Int.toNat i * 6) (encIm l))))))) PV.nilp) && true && true) && true) && true) && true) && true) && true) && true)
 (brC (decide (ByteArray.size (PV.asStr (List.headD (List.drop (Int.toNat i * 6) (encIm l)) PV.nilp)) ≤ 1000000) && isL (PV.sl (PV.slN (List.headD (List.tail (List.drop (Int.toNat i * 6) (encIm l))) PV.nilp)) (PV.slL (List.headD (List.tail (List.drop (Int.toNat i * 6) (encIm l))) PV.nilp))))
 (brC (!placeB (PV.asStr (List.headD (List.drop (Int.toNat i * 6) (encIm l)) PV.nilp)) (asL (PV.sl (PV.slN (List.headD (List.tail (List.drop (Int.toNat i * 6) (encIm l))) PV.nilp)) (PV.slL (List.headD (List.tail (List.drop (Int.toNat i * 6) (encIm l))) PV.nilp)))))
 (some (Sum.inr (Ex.ret, [(AV.pv (PV.sl (List.length l) (encIm l)), none), (AV.pv (PV.bool false), none)])))
 (brC (decide (i > 0))
 (brC (decide (0 ≤ IntKind.wrap IntKind.i64 (i - 1)) && decide (IntKind.wrap IntKind.i64 (i - 1) < (↑(List.length l) : Int)))
 (brC (Nat.blt 0 (List.length (List.drop 0 (List.drop (Int.toNat (IntKind.wrap IntKind.i64 (i - 1)) * 6) (encIm l)))) && PV.isStr (List.headD (List.drop 0 (List.drop (Int.toNat (IntKind.wrap IntKind.i64 (i - 1)) * 6) (encIm l))) PV.nilp) && true)
 (brC (decide (0 ≤ IntKind.wrap IntKind.i64 (i - 1)) && decide (IntKind.wrap IntKind.i64 (i - 1) < (↑(List.length l) : Int)))
 (brC (Nat.blt 0 (List.length (List.drop 1 (List.drop (Int.toNat (IntKind.wrap IntKind.i64 (i - 1)) * 6) (encIm l)))) && PV.isSl (List.headD (List.drop 1 (List.drop (Int.toNat (IntKind.wrap IntKind.i64 (i - 1)) * 6) (encIm l))) PV.nilp) && true)
 (brC (isL (PV.sl (PV.slN (List.headD (List.drop 1 (List.drop (Int.toNat (IntKind.wrap IntKind.i64 (i - 1)) * 6) (encIm l))) PV.nilp)) (PV.slL (List.headD (List.drop 1 (List.drop (Int.toNat (IntKind.wrap IntKind.i64 (i - 1)) * 6) (encIm l))) PV.nilp))) && isL (PV.sl (PV.slN (List.headD (List.tail (List.drop (Int.toNat i * 6) (encIm l))) PV.nilp)) (PV.slL (List.headD (List.tail (List.drop (Int.toNat i * 6) (encIm l))) PV.nilp))))
 (brC (!locLt (PV.asStr (List.headD (List.drop 0 (List.drop (Int.toNat (IntKind.wrap IntKind.i64 (i - 1)) * 6) (encIm l))) PV.nilp)) (asL (PV.sl (PV.slN (List.headD (List.drop 1 (List.drop (Int.toNat (IntKind.wrap IntKind.i64 (i - 1)) * 6) (encIm l))) PV.nilp)) (PV.slL (List.headD (List.drop 1 (List.drop (Int.toNat (IntKind.wrap IntKind.i64 (i - 1)) * 6) (encIm l))) PV.nilp)))) (PV.asStr (List.headD (List.drop (Int.toNat i * 6) (encIm l)) PV.nilp)) (asL (PV.sl (PV.slN (List.headD (List.tail (List.drop (Int.toNat i * 6) (encIm l))) PV.nilp)) (PV.slL (List.headD (List.tail (List.drop (Int.toNat i * 6) (encIm l))) PV.nilp)))))
 (some (Sum.inr (Ex.ret, [(AV.pv (PV.sl (List.length l) (encIm l)), none), (AV.pv (PV.bool false), none)])))
 (brC (decide ((↑(ByteArray.size (PV.asStr (List.headD (List.tail (List.tail (List.tail (List.drop (Int.toNat i * 6) (encIm l))))) PV.nilp))) : Int) > 64))
 (some (Sum.inr (Ex.ret, [(AV.pv (PV.sl (List.length l) (encIm l)), none), (AV.pv (PV.bool false), none)])))
 (brC (decide ((↑(ByteArray.size (PV.asStr (List.headD (List.tail (List.tail (List.tail (List.tail (List.tail (List.drop (Int.toNat i * 6) (encIm l))))))) PV.nilp))) : Int) > 64))
 (some (Sum.inr (Ex.ret, [(AV.pv (PV.sl (List.length l) (encIm l)), none), (AV.pv (PV.bool false), none)])))
 (brC (!PV.asBool (List.headD (List.tail (List.tail (List.drop (Int.toNat i * 6) (encIm l)))) PV.nilp))
 (brC (!ByteArray.toList (PV.asStr (List.headD (List.tail (List.tail (List.tail (List.drop (Int.toNat i * 6) (encIm l))))) PV.nilp)) == [])
 (some (Sum.inr (Ex.ret, [(AV.pv (PV.sl (List.length l) (encIm l)), none), (AV.pv (PV.bool false), none)])))
 (brC (!PV.asBool (List.headD (List.tail (List.tail (List.tail (List.tail (List.drop (Int.toNat i * 6) (encIm l)))))) PV.nilp))
 (brC (!ByteArray.toList (PV.asStr (List.headD (List.tail (List.tail (List.tail (List.tail (List.tail (List.drop (Int.toNat i * 6) (encIm l))))))) PV.nilp)) == [])
 (some (Sum.inr (Ex.ret, [(AV.pv (PV.sl (List.length l) (encIm l)), none), (AV.pv (PV.bool false), none)])))
 (brC (PV.asBool (List.headD (List.tail (List.tail (List.drop (Int.toNat i * 6) (encIm l)))) PV.nilp) == PV.asBool (List.headD (List.tail (List.tail (List.tail (List.tail (List.drop (Int.toNat i * 6) (encIm l)))))) PV.nilp))
 (brC (ByteArray.toList (PV.asStr (List.headD (List.tail (List.tail (List.tail (List.drop (Int.toNat i * 6) (encIm l))))) PV.nilp)) == ByteArray.toList (PV.asStr (List.headD (List.tail (List.tail (List.tail (List.tail (List.tail (List.drop (Int.toNat i * 6) (encIm l))))))) PV.nilp)))
 (some (Sum.inr (Ex.ret, [(AV.pv (PV.sl (List.length l) (encIm l)), none), (AV.pv (PV.bool false), none)])))
 (some (Sum.inl [(AV.pv (PV.sl (List.length l) (encIm l)), none), (AV.pv (PV.int IntKind.i64 (IntKind.wrap IntKind.i64 (i + 1))), none)])))
 (some (Sum.inl [(AV.pv (PV.sl (List.length l) (encIm l)), none), (AV.pv (PV.int IntKind.i64 (IntKind.wrap IntKind.i64 (i + 1))), none)]))))
 (brC (PV.asBool (List.headD (List.tail (List.tail (List.drop (Int.toNat i * 6) (encIm l)))) PV.nilp) == PV.asBool (List.headD (List.tail (List.tail (List.tail (List.tail (List.drop (Int.toNat i * 6) (encIm l)))))) PV.nilp))
 (brC (ByteArray.toList (PV.asStr (List.headD (List.tail (List.tail (List.tail (List.drop (Int.toNat i * 6) (encIm l))))) PV.nilp)) == ByteArray.toList (PV.asStr (List.headD (List.tail (List.tail (List.tail (List.tail (List.tail (List.drop (Int.toNat i * 6) (encIm l))))))) PV.nilp)))
 (some (Sum.inr (Ex.ret, [(AV.pv (PV.sl (List.length l) (encIm l)), none), (AV.pv (PV.bool false), none)])))
 (some (Sum.inl [(AV.pv (PV.sl (List.length l) (encIm l)), none), (AV.pv (PV.int IntKind.i64 (IntKind.wrap IntKind.i64 (i + 1))), none)])))
 (some (Sum.inl [(AV.pv (PV.sl (List.length l) (encIm l)), none), (AV.pv (PV.int IntKind.i64 (IntKind.wrap IntKind.i64 (i + 1))), none)])))))
 (brC (!PV.asBool (List.headD (List.tail (List.tail (List.tail (List.tail (List.drop (Int.toNat i * 6) (encIm l)))))) PV.nilp))
 (brC (!ByteArray.toList (PV.asStr (List.headD (List.tail (List.tail (List.tail (List.tail (List.tail (List.drop (Int.toNat i * 6) (encIm l))))))) PV.nilp)) == [])
 (some (Sum.inr (Ex.ret, [(AV.pv (PV.sl (List.length l) (encIm l)), none), (AV.pv (PV.bool false), none)])))
 (brC (PV.asBool (List.headD (List.tail (List.tail (List.drop (Int.toNat i * 6) (encIm l)))) PV.nilp) == PV.asBool (List.headD (List.tail (List.tail (List.tail (List.tail (List.drop (Int.toNat i * 6) (encIm l)))))) PV.nilp))
 (brC (ByteArray.toList (PV.asStr (List.headD (List.tail (List.tail (List.tail (List.drop (Int.toNat i * 6) (encIm l))))) PV.nilp)) == ByteArray.toList (PV.asStr (List.headD (List.tail (List.tail (List.tail (List.tail (List.tail (List.drop (Int.toNat i * 6) (encIm l))))))) PV.nilp)))
 (some (Sum.inr (Ex.ret, [(AV.pv (PV.sl (List.length l) (encIm l)), none), (AV.pv (PV.bool false), none)])))
 (some (Sum.inl [(AV.pv (PV.sl (List.length l) (encIm l)), none), (AV.pv (PV.int IntKind.i64 (IntKind.wrap IntKind.i64 (i + 1))), none)])))
 (some (Sum.inl [(AV.pv (PV.sl (List.length l) (encIm l)), none), (AV.pv (PV.int IntKind.i64 (IntKind.wrap IntKind.i64 (i + 1))), none)]))))
 (brC (PV.asBool (List.headD (List.tail (List.tail (List.drop (Int.toNat i * 6) (encIm l)))) PV.nilp) == PV.asBool (List.headD (List.tail (List.tail (List.tail (List.tail (List.drop (Int.toNat i * 6) (encIm l)))))) PV.nilp))
 (brC (ByteArray.toList (PV.asStr (List.headD (List.tail (List.tail (List.tail (List.drop (Int.toNat i * 6) (encIm l))))) PV.nilp)) == ByteArray.toList (PV.asStr (List.headD (List.tail (List.tail (List.tail (List.tail (List.tail (List.drop (Int.toNat i * 6) (encIm l))))))) PV.nilp)))
 (some (Sum.inr (Ex.ret, [(AV.pv (PV.sl (List.length l) (encIm l)), none), (AV.pv (PV.bool false), none)])))
 (some (Sum.inl [(AV.pv (PV.sl (List.length l) (encIm l)), none), (AV.pv (PV.int IntKind.i64 (IntKind.wrap IntKind.i64 (i + 1))), none)])))
 (some (Sum.inl [(AV.pv (PV.sl (List.length l) (encIm l)), none), (AV.pv (PV.int IntKind.i64 (IntKind.wrap IntKind.i64 (i + 1))), none)]))))))))
 (none))
 (none))
 (none))
 (none))
 (none))
 (brC (decide ((↑(ByteArray.size (PV.asStr (List.headD (List.tail (List.tail (List.tail (List.drop (Int.toNat i * 6) (encIm l))))) PV.nilp))) : Int) > 64))
 (some (Sum.inr (Ex.ret, [(AV.pv (PV.sl (List.length l) (encIm l)), none), (AV.pv (PV.bool false), none)])))
 (brC (decide ((↑(ByteArray.size (PV.asStr (List.headD (List.tail (List.tail (List.tail (List.tail (List.tail (List.drop (Int.toNat i * 6) (encIm l))))))) PV.nilp))) : Int) > 64))
 (some (Sum.inr (Ex.ret, [(AV.pv (PV.sl (List.length l) (encIm l)), none), (AV.pv (PV.bool false), none)])))
 (brC (!PV.asBool (List.headD (List.tail (List.tail (List.drop (Int.toNat i * 6) (encIm l)))) PV.nilp))
 (brC (!ByteArray.toList (PV.asStr (List.headD (List.tail (List.tail (List.tail (List.drop (Int.toNat i * 6) (encIm l))))) PV.nilp)) == [])
 (some (Sum.inr (Ex.ret, [(AV.pv (PV.sl (List.length l) (encIm l)), none), (AV.pv (PV.bool false), none)])))
 (brC (!PV.asBool (List.headD (List.tail (List.tail (List.tail (List.tail (List.drop (Int.toNat i * 6) (encIm l)))))) PV.nilp))
 (brC (!ByteArray.toList (PV.asStr (List.headD (List.tail (List.tail (List.tail (List.tail (List.tail (List.drop (Int.toNat i * 6) (encIm l))))))) PV.nilp)) == [])
 (some (Sum.inr (Ex.ret, [(AV.pv (PV.sl (List.length l) (encIm l)), none), (AV.pv (PV.bool false), none)])))
 (brC (PV.asBool (List.headD (List.tail (List.tail (List.drop (Int.toNat i * 6) (encIm l)))) PV.nilp) == PV.asBool (List.headD (List.tail (List.tail (List.tail (List.tail (List.drop (Int.toNat i * 6) (encIm l)))))) PV.nilp))
 (brC (ByteArray.toList (PV.asStr (List.headD (List.tail (List.tail (List.tail (List.drop (Int.toNat i * 6) (encIm l))))) PV.nilp)) == ByteArray.toList (PV.asStr (List.headD (List.tail (List.tail (List.tail (List.tail (List.tail (List.drop (Int.toNat i * 6) (encIm l))))))) PV.nilp)))
 (some (Sum.inr (Ex.ret, [(AV.pv (PV.sl (List.length l) (encIm l)), none), (AV.pv (PV.bool false), none)])))
 (some (Sum.inl [(AV.pv (PV.sl (List.length l) (encIm l)), none), (AV.pv (PV.int IntKind.i64 (IntKind.wrap IntKind.i64 (i + 1))), none)])))
 (some (Sum.inl [(AV.pv (PV.sl (List.length l) (encIm l)), none), (AV.pv (PV.int IntKind.i64 (IntKind.wrap IntKind.i64 (i + 1))), none)]))))
 (brC (PV.asBool (List.headD (List.tail (List.tail (List.drop (Int.toNat i * 6) (encIm l)))) PV.nilp) == PV.asBool (List.headD (List.tail (List.tail (List.tail (List.tail (List.drop (Int.toNat i * 6) (encIm l)))))) PV.nilp))
 (brC (ByteArray.toList (PV.asStr (List.headD (List.tail (List.tail (List.tail (List.drop (Int.toNat i * 6) (encIm l))))) PV.nilp)) == ByteArray.toList (PV.asStr (List.headD (List.tail (List.tail (List.tail (List.tail (List.tail (List.drop (Int.toNat i * 6) (encIm l))))))) PV.nilp)))
 (some (Sum.inr (Ex.ret, [(AV.pv (PV.sl (List.length l) (encIm l)), none), (AV.pv (PV.bool false), none)])))
 (some (Sum.inl [(AV.pv (PV.sl (List.length l) (encIm l)), none), (AV.pv (PV.int IntKind.i64 (IntKind.wrap IntKind.i64 (i + 1))), none)])))
 (some (Sum.inl [(AV.pv (PV.sl (List.length l) (encIm l)), none), (AV.pv (PV.int IntKind.i64 (IntKind.wrap IntKind.i64 (i + 1))), none)])))))
 (brC (!PV.asBool (List.headD (List.tail (List.tail (List.tail (List.tail (List.drop (Int.toNat i * 6) (encIm l)))))) PV.nilp))
 (brC (!ByteArray.toList (PV.asStr (List.headD (List.tail (List.tail (List.tail (List.tail (List.tail (List.drop (Int.toNat i * 6) (encIm l))))))) PV.nilp)) == [])
 (some (Sum.inr (Ex.ret, [(AV.pv (PV.sl (List.length l) (encIm l)), none), (AV.pv (PV.bool false), none)])))
 (brC (PV.asBool (List.headD (List.tail (List.tail (List.drop (Int.toNat i * 6) (encIm l)))) PV.nilp) == PV.asBool (List.headD (List.tail (List.tail (List.tail (List.tail (List.drop (Int.toNat i * 6) (encIm l)))))) PV.nilp))
 (brC (ByteArray.toList (PV.asStr (List.headD (List.tail (List.tail (List.tail (List.drop (Int.toNat i * 6) (encIm l))))) PV.nilp)) == ByteArray.toList (PV.asStr (List.headD (List.tail (List.tail (List.tail (List.tail (List.tail (List.drop (Int.toNat i * 6) (encIm l))))))) PV.nilp)))
 (some (Sum.inr (Ex.ret, [(AV.pv (PV.sl (List.length l) (encIm l)), none), (AV.pv (PV.bool false), none)])))
 (some (Sum.inl [(AV.pv (PV.sl (List.length l) (encIm l)), none), (AV.pv (PV.int IntKind.i64 (IntKind.wrap IntKind.i64 (i + 1))), none)])))
 (some (Sum.inl [(AV.pv (PV.sl (List.length l) (encIm l)), none), (AV.pv (PV.int IntKind.i64 (IntKind.wrap IntKind.i64 (i + 1))), none)]))))
 (brC (PV.asBool (List.headD (List.tail (List.tail (List.drop (Int.toNat i * 6) (encIm l)))) PV.nilp) == PV.asBool (List.headD (List.tail (List.tail (List.tail (List.tail (List.drop (Int.toNat i * 6) (encIm l)))))) PV.nilp))
 (brC (ByteArray.toList (PV.asStr (List.headD (List.tail (List.tail (List.tail (List.drop (Int.toNat i * 6) (encIm l))))) PV.nilp)) == ByteArray.toList (PV.asStr (List.headD (List.tail (List.tail (List.tail (List.tail (List.tail (List.drop (Int.toNat i * 6) (encIm l))))))) PV.nilp)))
 (some (Sum.inr (Ex.ret, [(AV.pv (PV.sl (List.length l) (encIm l)), none), (AV.pv (PV.bool false), none)])))
 (some (Sum.inl [(AV.pv (PV.sl (List.length l) (encIm l)), none), (AV.pv (PV.int IntKind.i64 (IntKind.wrap IntKind.i64 (i + 1))), none)])))
 (some (Sum.inl [(AV.pv (PV.sl (List.length l) (encIm l)), none), (AV.pv (PV.int IntKind.i64 (IntKind.wrap IntKind.i64 (i + 1))), none)])))))))))
 (none))
 (none))
 (none))
 (some (Sum.inr (Ex.exit 0, [(AV.pv (PV.sl (List.length l) (encIm l)), none), (AV.bad, none)]))))
 (some (Sum.inr (Ex.exit 0, [(AV.pv (PV.sl (List.length l) (encIm l)), none), (AV.bad, none)]))) := by kernel_rfl
theorem r_imgsOk_eq (l : List ImT) (u : List ImT) (i : Int) : r_imgsOk brC l u i =
 brC (decide (i < (↑(List.length u) : Int)))
 (brC (decide (0 ≤ i) && decide (i < (↑(List.length u) : Int)))
 (brC (Nat.ble 6 (List.length (List.drop (Int.toNat i * 6) (encIm u))) && (PV.isStr (List.headD (List.drop (Int.toNat i * 6) (encIm u)) PV.nilp) && (PV.isSl (List.headD (List.tail (List.drop (Int.toNat i * 6) (encIm u))) PV.nilp) && (PV.isBool (List.headD (List.tail (List.tail (List.drop (Int.toNat i * 6) (encIm u)))) PV.nilp) && (PV.isStr (List.headD (List.tail (List.tail (List.tail (List.drop (Int.toNat i * 6) (encIm u))))) PV.nilp) && (PV.isBool (List.headD (List.tail (List.tail (List.tail (List.tail (List.drop (Int.toNat i * 6) (encIm u)))))) PV.nilp) && (PV.isStr (List.headD (List.tail (List.tail (List.tail (List.tail (List.tail (List.drop (Int.toNat i * 6) (encIm u))))))) PV.nilp) && true && true) && true) && true) && true) && true) && true) && true)
 (brC (isIm (PV.agg [PV.str (PV.asStr (List.headD (List.drop (Int.toNat i * 6) (encIm u)) PV.nilp)), PV.sl (PV.slN (List.headD (List.tail (List.drop (Int.toNat i * 6) (encIm u))) PV.nilp)) (PV.slL (List.headD (List.tail (List.drop (Int.toNat i * 6) (encIm u))) PV.nilp)), PV.bool (PV.asBool (List.headD (List.tail (List.tail (List.drop (Int.toNat i * 6) (encIm u)))) PV.nilp)), PV.str (PV.asStr (List.headD (List.tail (List.tail (List.tail (List.drop (Int.toNat i * 6) (encIm u))))) PV.nilp)), PV.bool (PV.asBool (List.headD (List.tail (List.tail (List.tail (List.tail (List.drop (Int.toNat i * 6) (encIm u)))))) PV.nilp)), PV.str (PV.asStr (List.headD (List.tail (List.tail (List.tail (List.tail (List.tail (List.drop (Int.toNat i * 6) (encIm u))))))) PV.nilp))]))
 (brC (!imgB (asIm (PV.agg [PV.str (PV.asStr (List.headD (List.drop (Int.toNat i * 6) (encIm u)) PV.nilp)), PV.sl (PV.slN (List.headD (List.tail (List.drop (Int.toNat i * 6) (encIm u))) PV.nilp)) (PV.slL (List.headD (List.tail (List.drop (Int.toNat i * 6) (encIm u))) PV.nilp)), PV.bool (PV.asBool (List.headD (List.tail (List.tail (List.drop (Int.toNat i * 6) (encIm u)))) PV.nilp)), PV.str (PV.asStr (List.headD (List.tail (List.tail (List.tail (List.drop (Int.toNat i * 6) (encIm u))))) PV.nilp)), PV.bool (PV.asBool (List.headD (List.tail (List.tail (List.tail (List.tail (List.drop (Int.toNat i * 6) (encIm u)))))) PV.nilp)), PV.str (PV.asStr (List.headD (List.tail (List.tail (List.tail (List.tail (List.tail (List.drop (Int.toNat i * 6) (encIm u))))))) PV.nilp))])))
 (some (Sum.inr (Ex.ret, [(AV.pv (PV.sl (List.length l) (encIm l)), none), (AV.pv (PV.bool false), none)])))
 (brC (decide (i > 0))
 (brC (decide (0 ≤ IntKind.wrap IntKind.i64 (i - 1)) && decide (IntKind.wrap IntKind.i64 (i - 1) < (↑(List.length l) : Int)))
 (brC (Nat.blt 0 (List.length (List.drop 0 (List.drop (Int.toNat (IntKind.wrap IntKind.i64 (i - 1)) * 6) (encIm l)))) && PV.isStr (List.headD (List.drop 0 (List.drop (Int.toNat (IntKind.wrap IntKind.i64 (i - 1)) * 6) (encIm l))) PV.nilp) && true)
 (brC (decide (0 ≤ IntKind.wrap IntKind.i64 (i - 1)) && decide (IntKind.wrap IntKind.i64 (i - 1) < (↑(List.length l) : Int)))
 (brC (Nat.blt 0 (List.length (List.drop 1 (List.drop (Int.toNat (IntKind.wrap IntKind.i64 (i - 1)) * 6) (encIm l)))) && PV.isSl (List.headD (List.drop 1 (List.drop (Int.toNat (IntKind.wrap IntKind.i64 (i - 1)) * 6) (encIm l))) PV.nilp) && true)
 (brC (isL (PV.sl (PV.slN (List.headD (List.drop 1 (List.drop (Int.toNat (IntKind.wrap IntKind.i64 (i - 1)) * 6) (encIm l))) PV.nilp)) (PV.slL (List.headD (List.drop 1 (List.drop (Int.toNat (IntKind.wrap IntKind.i64 (i - 1)) * 6) (encIm l))) PV.nilp))) && isL (PV.sl (PV.slN (List.headD (List.tail (List.drop (Int.toNat i * 6) (encIm u))) PV.nilp)) (PV.slL (List.headD (List.tail (List.drop (Int.toNat i * 6) (encIm u))) PV.nilp))))
 (brC (decide (cmpLoc (PV.asStr (List.headD (List.drop 0 (List.drop (Int.toNat (IntKind.wrap IntKind.i64 (i - 1)) * 6) (encIm l))) PV.nilp)) (asL (PV.sl (PV.slN (List.headD (List.drop 1 (List.drop (Int.toNat (IntKind.wrap IntKind.i64 (i - 1)) * 6) (encIm l))) PV.nilp)) (PV.slL (List.headD (List.drop 1 (List.drop (Int.toNat (IntKind.wrap IntKind.i64 (i - 1)) * 6) (encIm l))) PV.nilp)))) (PV.asStr (List.headD (List.drop (Int.toNat i * 6) (encIm u)) PV.nilp)) (asL (PV.sl (PV.slN (List.headD (List.tail (List.drop (Int.toNat i * 6) (encIm u))) PV.nilp)) (PV.slL (List.headD (List.tail (List.drop (Int.toNat i * 6) (encIm u))) PV.nilp)))) ≥ 0))
 (some (Sum.inr (Ex.ret, [(AV.pv (PV.sl (List.length l) (encIm l)), none), (AV.pv (PV.bool false), none)])))
 (some (Sum.inl [(AV.pv (PV.sl (List.length l) (encIm l)), none), (AV.pv (PV.sl (List.length u) (encIm u)), none), (AV.pv (PV.int IntKind.i64 (↑(List.length u) : Int)), none), (AV.pv (PV.int IntKind.i64 (IntKind.wrap IntKind.i64 (i + 1))), none)])))
 (none))
 (none))
 (none))
 (none))
 (none))
 (some (Sum.inl [(AV.pv (PV.sl (List.length l) (encIm l)), none), (AV.pv (PV.sl (List.length u) (encIm u)), none), (AV.pv (PV.int IntKind.i64 (↑(List.length u) : Int)), none), (AV.pv (PV.int IntKind.i64 (IntKind.wrap IntKind.i64 (i + 1))), none)]))))
 (none))
 (none))
 (none))
 (some (Sum.inr (Ex.exit 0, [(AV.pv (PV.sl (List.length l) (encIm l)), none), (AV.bad, none)]))) := by kernel_rfl
theorem q_simgs_eq (l : List ImT) : q_simgs brC l =
 brC (isIms (pIms l) && 0 == 0 && imChain none (List.take 241 (asIms (pIms l))))
 (some ((IV.cv (CV.pv (PV.bool (decide ((↑(List.length (asIms (pIms l))) : Int) ≤ 240)))), [])))
 (brC (isIms (pIms l) && 0 == 0)
 (some ((IV.cv (CV.pv (PV.bool false)), [])))
 (none)) := by kernel_rfl
theorem q_putIms_eq (l : List ImT) : q_putIms brC l =
 brC (isIms (PV.sl (List.length l) (encIm l)))
 (brC (!imgsB (asIms (PV.sl (List.length l) (encIm l))))
 (some ((IV.cv (CV.pv (PV.str { data := #[] })), [])))
 (brC (Nat.beq 235 235 && holds (ByteArray.size (litV (↑(List.length l) : Int) 1) ≤ 100000000))
 (brC (isIms (pIms l) && isIms (pIms l) && holds (asIms (pIms l) = asIms (pIms l)) && Nat.beq 12288 12288 && Nat.beq 233 233 && Nat.beq 5 5 && isBy (PV.sl (ByteArray.size (litV (↑(List.length l) : Int) 1)) (bytesP (litV (↑(List.length l) : Int) 1))) && (↑(List.length l) : Int) == (↑(List.length (asIms (pIms l))) : Int) && 0 == 0 && imgsB (asIms (pIms l)) && holds (ByteArray.size (asBy (PV.sl (ByteArray.size (litV (↑(List.length l) : Int) 1)) (bytesP (litV (↑(List.length l) : Int) 1)))) ≤ 10))
 (brC (Nat.beq 5 5 && isBy (PV.sl (ByteArray.size (imsT (asBy (PV.sl (ByteArray.size (litV (↑(List.length l) : Int) 1)) (bytesP (litV (↑(List.length l) : Int) 1)))) (asIms (pIms l)))) (bytesP (imsT (asBy (PV.sl (ByteArray.size (litV (↑(List.length l) : Int) 1)) (bytesP (litV (↑(List.length l) : Int) 1)))) (asIms (pIms l))))) && Nat.ble 1 (ByteArray.size (imsT (asBy (PV.sl (ByteArray.size (litV (↑(List.length l) : Int) 1)) (bytesP (litV (↑(List.length l) : Int) 1)))) (asIms (pIms l)))))
 (some ((IV.cv (CV.pv (PV.str (asBy (PV.sl (ByteArray.size (imsT (asBy (PV.sl (ByteArray.size (litV (↑(List.length l) : Int) 1)) (bytesP (litV (↑(List.length l) : Int) 1)))) (asIms (pIms l)))) (bytesP (imsT (asBy (PV.sl (ByteArray.size (litV (↑(List.length l) : Int) 1)) (bytesP (litV (↑(List.length l) : Int) 1)))) (asIms (pIms l)))))))), [])))
 (none))
 (none))
 (none)))
 (none) := by kernel_rfl
end
section
open Go.RowKit
set_option linter.unusedVariables false
set_option linter.unusedSimpArgs false
set_option maxRecDepth 100000
theorem ok_kcb0 : EntriesOk Tryz.prog kcb0 := ⟨ok_longL, ok_locationOk, ok_cmpLoc, trivial⟩
theorem long_twoK (a b : ByteArray) : decide (frstL [a, b] < [a, b].length) = (decide ((a.size : Int) > 64) || decide ((b.size : Int) > 64)) := by
  unfold frstL
  rw [idxV_any]
  simp
theorem ok_imgOk : EntryOk Tryz.prog 52 E_imgOk := entry_of mix ok_kcb0 (lp := []) (LO := LO0) ⟨Tryz.func52, by kernel_rfl, by kernel_rfl⟩ (by kernel_rfl) fun ivs res bxs h => by
  unfold E_imgOk at h
  split at h
  · rename_i p_i
    obtain ⟨hc, he⟩ := pick1 h
    cases he
    have k0 := hc
    obtain ⟨i, rfl, h_i⟩ := isE_inv k0
    have e_i : asIm (pIm i) = i := asIm_mk i
    have i_i := isIm_mk h_i
    try simp only [e_i]
    obtain ⟨g1, g2, g3, g4⟩ := h_i
    have iL := isL_mk g2
    have x2 : shL [i.was, i.is] := ⟨by simp, fun s hs => by
      rcases List.mem_cons.1 hs with rfl | hs
      · exact g3
      · rw [List.mem_singleton.1 hs]; exact g4⟩
    have i2 : isL (PV.sl 2 [PV.str i.was, PV.str i.is]) = true := isL_mk x2
    have a2 : asL (PV.sl 2 [PV.str i.was, PV.str i.is]) = [i.was, i.is] := asL_mk [i.was, i.is]
    refine ⟨noLoop (by kernel_rfl), (q_imgOk_eq i).trans ?_⟩
    rw [i2, a2, long_twoK]
    simp (disch := first | omega | rfl) only [isL, iL, asL_mk, dT, Bool.and_true, Bool.true_and]
    unfold imgB
    have e0 : (⟨#[]⟩ : ByteArray).toList = [] := ByteArray.toList_mk []
    unfold sEq
    rw [e0]
    have l1 : decide ((i.was.size : Int) > 64) = !decide (i.was.size ≤ 64) := by by_cases h : i.was.size ≤ 64 <;> simp [h] <;> omega
    have l2 : decide ((i.is.size : Int) > 64) = !decide (i.is.size ≤ 64) := by by_cases h : i.is.size ≤ 64 <;> simp [h] <;> omega
    rw [l1, l2]
    generalize placeB i.name i.subs = p
    generalize decide (i.was.size ≤ 64) = u
    generalize decide (i.is.size ≤ 64) = v
    generalize (i.was.toList == ([] : List UInt8)) = a
    generalize (i.is.toList == ([] : List UInt8)) = b
    generalize (i.was.toList == i.is.toList) = c
    generalize i.had = d
    generalize i.has = e
    cases p <;> cases u <;> cases v <;> cases d <;> cases e <;> cases a <;> cases b <;> cases c <;> rfl
  · cases h
theorem ok_kcb1 : EntriesOk Tryz.prog kcb1 := ⟨ok_imgOk, ok_kcb0⟩
theorem imChainK_eq : ∀ (l : List ImT) (p : Option ImT), imChainK p l = imChain p l
  | [], _ => rfl
  | i :: l, p => by
    unfold imChainK imChain
    rw [imChainK_eq l (some i)]
    cases p with
    | none => rfl
    | some j =>
      dsimp only
      rw [cmpLoc_neg]
theorem imgsOk_loopK (t : List ImT) (h : shIms t) : ∀ (m i : Nat), m + i = t.length → LoopsTo (rdB brC Tryz.prog kcb1 lp_imgsOk LO_imgsOk Tryz.f31 2 []) [aP (pIms t), aP (pIms t), aI t.length, aI i] (if imChainK (prevK t i) (t.drop i) = true then (.exit 0, [aP (pIms t), aX]) else (.ret, [aP (pIms t), aB false])) := by
  have hl := h.1
  intro m
  induction m with
  | zero =>
    intro i hm
    obtain rfl : i = t.length := by omega
    rw [List.drop_length]
    refine .done _ _ ((r_imgsOk_eq t t t.length).trans ?_)
    rw [dF (by omega)]
    rfl
  | succ m ih =>
    intro i hm
    have hi : i < t.length := by omega
    have hs := shIm_at h hi
    have ih' := ih (i + 1) (by omega)
    have hp1 : prevK t (i + 1) = some t[i] := by unfold prevK; rw [if_neg (by omega)]; simp [hi]
    rw [hp1] at ih'
    rw [List.drop_eq_getElem_cons hi]
    unfold imChainK
    have tree := r_imgsOk_eq t t i
    simp (disch := first | omega | rfl) only [drop_encIm t i hi, isIm_mk hs, asIm_mk, asL_mk, isL_mk hs.2.1, dT, Int.toNat_natCast, List.length_cons, List.headD_cons, List.tail_cons, List.drop_zero, List.drop_succ_cons, PV.isStr, PV.asStr, PV.isSl, PV.slN, PV.slL, PV.isInt, PV.asInt, PV.isBool, PV.asBool, ble1, ble2, ble3, ble4, ble5, ble6, blt0, wrap1, Bool.and_true, Bool.true_and] at tree
    cases hn : imgB t[i] with
    | false =>
      rw [hn] at tree
      simp only [Bool.false_and, if_neg Bool.false_ne_true]
      exact .done _ _ tree
    | true =>
      rw [hn] at tree
      by_cases h0 : i = 0
      · subst h0
        have hp : prevK t 0 = none := rfl
        rw [hp]
        simp only [Bool.true_and]
        rw [dF (by omega)] at tree
        exact .step _ _ _ tree ih'
      · have hj : i - 1 < t.length := by omega
        have hsj := shIm_at h hj
        have w1 : IntKind.wrap .i64 ((i : Int) - 1) = ((i - 1 : Nat) : Int) := by rw [wrapI (by omega) (by omega)]; omega
        have hp : prevK t i = some t[i - 1] := by unfold prevK; rw [if_neg h0]; simp [hj]
        rw [hp]
        simp (disch := first | omega | rfl) only [w1, drop_encIm t (i - 1) hj, asL_mk, isL_mk hsj.2.1, dT, Int.toNat_natCast, List.length_cons, List.headD_cons, List.tail_cons, List.drop_zero, List.drop_succ_cons, PV.isStr, PV.asStr, PV.isSl, PV.slN, PV.slL, PV.isInt, PV.asInt, PV.isBool, PV.asBool, ble1, ble2, ble3, ble4, ble5, ble6, blt0, wrap1, Bool.and_true, Bool.true_and] at tree
        dsimp only
        by_cases hlt : cmpLoc t[i - 1].name t[i - 1].subs t[i].name t[i].subs < 0
        · rw [dF (show ¬ cmpLoc t[i - 1].name t[i - 1].subs t[i].name t[i].subs ≥ 0 by omega)] at tree
          simp only [dT hlt, Bool.true_and]
          exact .step _ _ _ tree ih'
        · rw [dT (show cmpLoc t[i - 1].name t[i - 1].subs t[i].name t[i].subs ≥ 0 by omega)] at tree
          simp only [dF hlt, Bool.false_and, Bool.true_and, if_neg Bool.false_ne_true]
          exact .done _ _ tree
theorem loops_imgsOk : ∀ b ∈ loopsIn (bodyOf Tryz.f31), LoopOk Tryz.prog (tabL kcb1) (OL lp_imgsOk) Tryz.f31.ntmps (pbOf []) LO_imgsOk b := by
  refine oneLoop 2 (by kernel_rfl) (by kernel_rfl) (by kernel_rfl) ?_
  intro ls e ls' hl
  replace hl : pickA (LO_imgsOk_2 ls) = some (e, ls') := hl
  unfold LO_imgsOk_2 at hl
  split at hl
  · rename_i p_l p_u n i
    rcases pick2 hl with ⟨hc, he⟩ | ⟨hn, hc, he⟩
    · cases he
      obtain ⟨hc, k5⟩ := andE hc
      obtain ⟨hc, k4⟩ := andE hc
      obtain ⟨hc, k3⟩ := andE hc
      obtain ⟨hc, k2⟩ := andE hc
      obtain ⟨hc, k1⟩ := andE hc
      have k0 := hc
      obtain ⟨l, rfl, h_l⟩ := isE_inv k0
      have e_l : asIms (pIms l) = l := asIms_mk l
      have i_l := isIms_mk h_l
      obtain ⟨u, rfl, h_u⟩ := isE_inv k1
      have e_u : asIms (pIms u) = u := asIms_mk u
      have i_u := isIms_mk h_u
      try simp only [e_l, e_u] at k2
      obtain rfl := eq_of_beq k2
      try simp only [e_l, e_u] at k3
      obtain rfl := eq_of_beq k3
      try simp only [e_l, e_u] at k4
      have c0 := holds_inv k4
      try simp only [e_l, e_u] at k5
      have c1 := k5
      try simp only [e_l, e_u]
      subst c0
      have := imgsOk_loopK l h_l l.length 0 (by omega)
      rw [List.drop_zero, show prevK l 0 = none from rfl] at this
      rw [Bool.not_eq_true'] at c1
      rw [c1, if_neg Bool.false_ne_true] at this
      exact this
    · cases he
      obtain ⟨hc, k5⟩ := andE hc
      obtain ⟨hc, k4⟩ := andE hc
      obtain ⟨hc, k3⟩ := andE hc
      obtain ⟨hc, k2⟩ := andE hc
      obtain ⟨hc, k1⟩ := andE hc
      have k0 := hc
      obtain ⟨l, rfl, h_l⟩ := isE_inv k0
      have e_l : asIms (pIms l) = l := asIms_mk l
      have i_l := isIms_mk h_l
      obtain ⟨u, rfl, h_u⟩ := isE_inv k1
      have e_u : asIms (pIms u) = u := asIms_mk u
      have i_u := isIms_mk h_u
      try simp only [e_l, e_u] at k2
      obtain rfl := eq_of_beq k2
      try simp only [e_l, e_u] at k3
      obtain rfl := eq_of_beq k3
      try simp only [e_l, e_u] at k4
      have c0 := holds_inv k4
      try simp only [e_l, e_u] at k5
      have c1 := k5
      try simp only [e_l, e_u]
      subst c0
      have := imgsOk_loopK l h_l l.length 0 (by omega)
      rw [List.drop_zero, show prevK l 0 = none from rfl, c1, if_pos rfl] at this
      exact this
  · cases hl
theorem ok_imgsOk : EntryOk Tryz.prog 31 E_imgsOk := entry_of mix ok_kcb1 (lp := lp_imgsOk) (LO := LO_imgsOk) ⟨Tryz.func31, by kernel_rfl, by kernel_rfl⟩ (by kernel_rfl) fun ivs res bxs h => by
  unfold E_imgsOk at h
  split at h
  · rename_i p_l
    obtain ⟨hc, he⟩ := pick1 h
    cases he
    have k0 := hc
    obtain ⟨l, rfl, h_l⟩ := isE_inv k0
    have e_l : asIms (pIms l) = l := asIms_mk l
    have i_l := isIms_mk h_l
    try simp only [e_l]
    refine ⟨loops_imgsOk, (q_imgsOk_eq l).trans ?_⟩
    have hl := h_l.1
    have hr : holds (l = l) = true := holds_mk rfl
    simp only [hr, holds_true, isIms, i_l, asIms_mk, e_l, beq_self_eq_true, Bool.and_true, Bool.true_and, eqP_mk, imChainK_eq]
    unfold imgsB
    cases imChain none l with
    | false => rfl
    | true =>
      by_cases h4 : l.length ≤ 240
      · rw [dT h4, dT (show (l.length : Int) ≤ 240 by omega)]; rfl
      · rw [dF h4, dF (show ¬ (l.length : Int) ≤ 240 by omega)]; rfl
  · cases h
theorem ok_kcb2 : EntriesOk Tryz.prog kcb2 := ⟨ok_l03Place, ok_l03Less, trivial⟩
theorem imgB_parts (i : ImT) : imgB i = (placeB i.name i.subs && !decide ((i.was.size : Int) > 64) && !decide ((i.is.size : Int) > 64) && (i.had || (i.was.toList == ([] : List UInt8))) && (i.has || (i.is.toList == ([] : List UInt8))) && (!(i.had == i.has) || !(i.was.toList == i.is.toList))) := by
  unfold imgB sEq
  have e0 : (⟨#[]⟩ : ByteArray).toList = [] := ByteArray.toList_mk []
  rw [e0]
  have l1 : decide ((i.was.size : Int) > 64) = !decide (i.was.size ≤ 64) := by by_cases h : i.was.size ≤ 64 <;> simp [h] <;> omega
  have l2 : decide ((i.is.size : Int) > 64) = !decide (i.is.size ≤ 64) := by by_cases h : i.is.size ≤ 64 <;> simp [h] <;> omega
  rw [l1, l2, Bool.not_not, Bool.not_not]
  cases i.had <;> cases i.has <;> rfl
theorem simgs_step (l : List ImT) (h : shIms l) (i : Nat) (hi : i < l.length) (h240 : i ≤ 240) :
    rdB brC Tryz.prog kcb2 lp_simgs LO_simgs Tryz.f24 2 [] [aP (pIms l), aI i] = some (bif (imgB l[i] && (match prevK l i with | none => true | some j => imLt j l[i])) then .inl [aP (pIms l), aI ((i + 1 : Nat) : Int)] else .inr (.ret, [aP (pIms l), aB false])) := by
  have hs := shIm_at h hi
  have hl := h.1
  have tree := r_simgs_eq l i
  rw [imgB_parts]
  simp (disch := first | omega | rfl) only [drop_encIm l i hi, asL_mk, isL, isL_mk hs.2.1, dT hs.1, dT, Int.toNat_natCast, List.length_cons, List.headD_cons, List.tail_cons, List.drop_zero, List.drop_succ_cons, PV.isStr, PV.asStr, PV.isSl, PV.slN, PV.slL, PV.isInt, PV.asInt, PV.isBool, PV.asBool, ble1, ble2, ble3, ble4, ble5, ble6, blt0, wrap1, Bool.and_true, Bool.true_and] at tree
  refine tree.trans ?_
  by_cases h0 : i = 0
  · have hp : prevK l i = none := by unfold prevK; rw [if_pos h0]
    rw [hp, dF (show ¬ (i : Int) > 0 by omega)]
    generalize placeB l[i].name l[i].subs = p
    generalize decide ((l[i].was.size : Int) > 64) = u
    generalize decide ((l[i].is.size : Int) > 64) = v
    generalize (l[i].was.toList == ([] : List UInt8)) = a
    generalize (l[i].is.toList == ([] : List UInt8)) = b
    generalize (l[i].was.toList == l[i].is.toList) = c
    generalize l[i].had = d
    generalize l[i].has = e
    cases p
    · rfl
    cases u
    · cases v
      · cases d <;> cases e <;> cases a <;> cases b <;> cases c <;> rfl
      · rfl
    · rfl
  · have hj : i - 1 < l.length := by omega
    have hsj := shIm_at h hj
    have w1 : IntKind.wrap .i64 ((i : Int) - 1) = ((i - 1 : Nat) : Int) := by rw [wrapI (by omega) (by omega)]; omega
    have hp : prevK l i = some l[i - 1] := by unfold prevK; rw [if_neg h0]; simp [hj]
    rw [hp, dT (show (i : Int) > 0 by omega), w1]
    simp (disch := first | omega | rfl) only [drop_encIm l (i - 1) hj, asL_mk, isL, isL_mk hs.2.1, isL_mk hsj.2.1, dT, Int.toNat_natCast, List.length_cons, List.headD_cons, List.tail_cons, List.drop_zero, List.drop_succ_cons, PV.isStr, PV.asStr, PV.isSl, PV.slN, PV.slL, blt0, Bool.and_true, Bool.true_and]
    dsimp only [imLt]
    generalize placeB l[i].name l[i].subs = p
    generalize locLt l[i - 1].name l[i - 1].subs l[i].name l[i].subs = q
    generalize decide ((l[i].was.size : Int) > 64) = u
    generalize decide ((l[i].is.size : Int) > 64) = v
    generalize (l[i].was.toList == ([] : List UInt8)) = a
    generalize (l[i].is.toList == ([] : List UInt8)) = b
    generalize (l[i].was.toList == l[i].is.toList) = c
    generalize l[i].had = d
    generalize l[i].has = e
    cases p
    · rfl
    cases q
    · cases u <;> cases v <;> cases d <;> cases e <;> cases a <;> cases b <;> cases c <;> rfl
    cases u
    · cases v
      · cases d <;> cases e <;> cases a <;> cases b <;> cases c <;> rfl
      · cases d <;> cases e <;> cases a <;> cases b <;> cases c <;> rfl
    · cases v <;> cases d <;> cases e <;> cases a <;> cases b <;> cases c <;> rfl
theorem simgs_loop (l : List ImT) (h : shIms l) : ∀ (m i : Nat), m + i = min l.length 241 → LoopsTo (rdB brC Tryz.prog kcb2 lp_simgs LO_simgs Tryz.f24 2 []) [aP (pIms l), aI i] (if imChain (prevK l i) ((l.take 241).drop i) = true then (.exit 0, [aP (pIms l), aX]) else (.ret, [aP (pIms l), aB false])) := by
  have hl := h.1
  intro m
  induction m with
  | zero =>
    intro i hi
    rw [List.drop_eq_nil_of_le (by rw [List.length_take]; omega)]
    refine .done _ _ ((r_simgs_eq l i).trans ?_)
    by_cases h1 : i < l.length
    · rw [dT (show (i : Int) < (l.length : Int) by omega), dF (show ¬ (i : Int) ≤ 240 by omega)]
      rfl
    · rw [dF (show ¬ (i : Int) < (l.length : Int) by omega)]
      rfl
  | succ m ih =>
    intro i hi
    have hil : i < l.length := by omega
    have hit : i < (l.take 241).length := by rw [List.length_take]; omega
    have ih' := ih (i + 1) (by omega)
    have st := simgs_step l h i hil (by omega)
    have hp1 : prevK l (i + 1) = some l[i] := by unfold prevK; rw [if_neg (by omega)]; simp [hil]
    rw [hp1] at ih'
    rw [List.drop_eq_getElem_cons hit]
    have e241 : (l.take 241)[i] = l[i] := List.getElem_take
    rw [e241]
    conv => rhs; unfold imChain
    cases hn : (imgB l[i] && (match prevK l i with | none => true | some j => imLt j l[i])) with
    | true =>
      rw [hn] at st
      rw [Bool.true_and]
      exact .step _ _ _ st ih'
    | false =>
      rw [hn] at st
      rw [Bool.false_and, if_neg Bool.false_ne_true]
      exact .done _ _ st
theorem ok_simgs : EntryOk Tryz.prog 24 E_imgsOk := entry_of mix ok_kcb2 (lp := lp_simgs) (LO := LO_simgs) ⟨Tryz.func24, by kernel_rfl, by kernel_rfl⟩ (by kernel_rfl) fun ivs res bxs h => by
  unfold E_imgsOk at h
  split at h
  · rename_i p_l
    obtain ⟨hc, he⟩ := pick1 h
    cases he
    obtain ⟨l, rfl, h_l⟩ := isE_inv hc
    have e_l : asIms (pIms l) = l := asIms_mk l
    have i_l : isIms (pIms l) = true := isIms_mk h_l
    rw [e_l]
    refine ⟨oneLoop 2 (by kernel_rfl) (by kernel_rfl) (by kernel_rfl) ?_, (q_simgs_eq l).trans ?_⟩
    · intro ls e ls' hl
      replace hl : pickA (LO_simgs_2 ls) = some (e, ls') := hl
      unfold LO_simgs_2 at hl
      split at hl
      · rename_i p_l i
        rcases pick2 hl with ⟨hc, he⟩ | ⟨hn, hc, he⟩
        · cases he
          obtain ⟨hc, k2⟩ := andE hc
          obtain ⟨k0, k1⟩ := andE hc
          obtain ⟨u, rfl, h_u⟩ := isE_inv k0
          have e_u : asIms (pIms u) = u := asIms_mk u
          rw [e_u] at k2 ⊢
          rw [eq_of_beq k1]
          have := simgs_loop u h_u (min u.length 241) 0 rfl
          rw [List.drop_zero, show prevK u 0 = none from rfl, k2, if_pos rfl] at this
          exact this
        · cases he
          obtain ⟨k0, k1⟩ := andE hc
          obtain ⟨u, rfl, h_u⟩ := isE_inv k0
          have e_u : asIms (pIms u) = u := asIms_mk u
          rw [hc, e_u, Bool.true_and] at hn
          rw [e_u, eq_of_beq k1]
          have := simgs_loop u h_u (min u.length 241) 0 rfl
          rw [List.drop_zero, show prevK u 0 = none from rfl, hn, if_neg Bool.false_ne_true] at this
          exact this
      · cases hl
    · rw [e_l, i_l]
      unfold imgsB
      have hz : decide ((l.length : Int) ≤ 240) = decide (l.length ≤ 240) := by by_cases h : l.length ≤ 240 <;> simp [h] <;> omega
      rw [hz]
      by_cases h240 : l.length ≤ 240
      · rw [List.take_of_length_le (by omega)]
        cases imChain none l <;> rfl
      · rw [decide_eq_false h240, Bool.and_false]
        cases imChain none (List.take 241 l) <;> rfl
  · cases h
theorem litV_size (n : Int) (k : Nat) : (litV n k).size = k := by
  rw [litV_eq]
  exact (mk_size _).trans (litL_len k _)
theorem nil_app (a : ByteArray) : (⟨#[]⟩ : ByteArray) ++ a = a := by
  apply ByteArray.ext
  rw [ByteArray.data_append]
  exact Array.empty_append
theorem app_nil (a : ByteArray) : a ++ (⟨#[]⟩ : ByteArray) = a := by
  apply ByteArray.ext
  rw [ByteArray.data_append]
  exact Array.append_empty
theorem shortV_eq (s : ByteArray) : shortV s = litV (s.size : Int) 1 ++ s := hidS_eq _
theorem shortV_size (s : ByteArray) : (shortV s).size = s.size + 1 := by rw [shortV_eq, ByteArray.size_append, litV_size]; omega
theorem ok_kcb3 : EntriesOk Tryz.prog kcb3 := ⟨ok_little, trivial⟩
theorem ok_short : EntryOk Tryz.prog 55 E_short := entry_of mix ok_kcb3 (lp := []) (LO := LO0) ⟨Tryz.func55, by kernel_rfl, by kernel_rfl⟩ (by kernel_rfl) fun ivs res bxs h => by
  unfold E_short at h
  split at h
  · rename_i s
    obtain ⟨hc, he⟩ := pick1 h
    cases he
    have hs := of_decide_eq_true hc
    refine ⟨noLoop (by kernel_rfl), (q_short_eq s).trans ?_⟩
    rw [litV_size, dT (show 1 + s.size ≤ 9223372036854775807 by omega), shortV_eq]
    rfl
  · cases h
theorem ok_byte : EntryOk Tryz.prog 25 E_byte := entry_of mix (tab := []) trivial (lp := []) (LO := LO0) ⟨Tryz.func25, by kernel_rfl, by kernel_rfl⟩ (by kernel_rfl) fun ivs res bxs h => by
  unfold E_byte at h
  split at h
  · rename_i n
    obtain ⟨hc, he⟩ := pick1 h
    cases he
    have hn := of_decide_eq_true hc
    obtain ⟨k, rfl⟩ : ∃ k : Nat, n = (k : Int) := ⟨n.toNat, by omega⟩
    refine ⟨noLoop (by kernel_rfl), (q_byte_eq k).trans ?_⟩
    rw [u8w, Int.toNat_natCast, UInt8.ofNat_toNat, litV_eq]
    rfl
  · cases h
theorem ok_kcb4 : EntriesOk Tryz.prog kcb4 := ⟨ok_byte, trivial⟩
theorem ok_stext : EntryOk Tryz.prog 26 E_short := entry_of mix ok_kcb4 (lp := []) (LO := LO0) ⟨Tryz.func26, by kernel_rfl, by kernel_rfl⟩ (by kernel_rfl) fun ivs res bxs h => by
  unfold E_short at h
  split at h
  · rename_i s
    obtain ⟨hc, he⟩ := pick1 h
    cases he
    have hs := of_decide_eq_true hc
    refine ⟨noLoop (by kernel_rfl), (q_stext_eq s).trans ?_⟩
    rw [litV_size, dT (show 1 + s.size ≤ 9223372036854775807 by omega), shortV_eq]
    rfl
  · cases h
theorem ok_kcb5 : EntriesOk Tryz.prog kcb5 := ⟨ok_short, ok_IKeyOf2, ok_kcb3⟩
theorem keyV2_size (s : ByteArray) (xs : List ByteArray) : (keyV2 s xs).size ≤ 300 := by
  rw [keyV2_eq]
  by_cases h : placeB s xs = true
  · rw [if_pos h, bs_len]; exact keyL_le h
  · rw [if_neg h]; exact Nat.zero_le _
theorem imV_eq (i : ImT) : imV i = shortV (keyV2 i.name i.subs) ++ litV (kindI i) 1 ++ valsI i := hidS_eq _
theorem ok_putIm : EntryOk Tryz.prog 35 E_putIm := entry_of mix ok_kcb5 (lp := []) (LO := LO0) ⟨Tryz.func35, by kernel_rfl, by kernel_rfl⟩ (by kernel_rfl) fun ivs res bxs h => by
  unfold E_putIm at h
  split at h
  · rename_i p_i
    obtain ⟨hc, he⟩ := pick1 h
    cases he
    obtain ⟨i, rfl, h_i⟩ := isE_inv hc
    have e_i : asIm (pIm i) = i := asIm_mk i
    rw [e_i]
    obtain ⟨g1, g2, g3, g4⟩ := h_i
    have iL := isL_mk g2
    refine ⟨noLoop (by kernel_rfl), (q_putIm_eq i).trans ?_⟩
    have zk := keyV2_size i.name i.subs
    have w1 : IntKind.wrap .i64 (0 + 1) = 1 := by decide
    have w2 : IntKind.wrap .i64 (1 + 2) = 3 := by decide
    have w3 : IntKind.wrap .i64 (0 + 2) = 2 := by decide
    rw [imV_eq, w1, w2, w3]
    unfold kindI valsI
    cases hh : i.had <;> cases hs : i.has <;>
    · simp (disch := first | omega | rfl) only [isL, iL, asL_mk, dT, nil_app, app_nil, ByteArray.size_append, shortV_size, litV_size, Bool.and_true, Bool.true_and, if_true, if_false, Bool.false_eq_true, g1, g3, g4, decide_true]
      rfl
  · cases h
theorem ok_cntIm : EntryOk Tryz.prog 34 E_cntIm := entry_of mix (tab := []) trivial (lp := []) (LO := LO0) ⟨Tryz.func34, by kernel_rfl, by kernel_rfl⟩ (by kernel_rfl) fun ivs res bxs h => by
  unfold E_cntIm at h
  split at h
  · rename_i n l
    obtain ⟨hc, he⟩ := pick1 h
    cases he
    exact ⟨noLoop (by kernel_rfl), q_cntIm_eq n l⟩
  · cases h
theorem ok_kcb6 : EntriesOk Tryz.prog kcb6 := ⟨ok_imgsOk, ok_putIm, ok_cntIm, ok_bldWrite, ok_bldString, ok_kcb3⟩
theorem imChain_all : ∀ (l : List ImT) (p : Option ImT), imChain p l = true → ∀ i ∈ l, imgB i = true
  | [], _, _, i, hi => by cases hi
  | x :: t, p, h, i, hi => by
    unfold imChain at h
    rw [Bool.and_eq_true, Bool.and_eq_true] at h
    rcases List.mem_cons.1 hi with rfl | hi
    · exact h.1.1
    · exact imChain_all t (some x) h.2 i hi
theorem imgsB_inv {l : List ImT} (h : imgsB l = true) : l.length ≤ 240 ∧ ∀ i ∈ l, imgB i = true := by
  unfold imgsB at h
  rw [Bool.and_eq_true, decide_eq_true_eq] at h
  exact ⟨h.2, imChain_all l none h.1⟩
theorem imgB_inv {i : ImT} (h : imgB i = true) : placeB i.name i.subs = true ∧ i.was.size ≤ 64 ∧ i.is.size ≤ 64 := by
  unfold imgB at h
  simp only [Bool.and_eq_true, decide_eq_true_eq] at h
  exact ⟨h.1.1.1.1.1, h.1.1.1.1.2, h.1.1.1.2⟩
theorem imV_size {i : ImT} (h : imgB i = true) : (imV i).size ≤ 500 := by
  obtain ⟨_, h1, h2⟩ := imgB_inv h
  have zk := keyV2_size i.name i.subs
  rw [imV_eq, ByteArray.size_append, ByteArray.size_append, shortV_size, litV_size]
  have hv : (valsI i).size ≤ 130 := by
    unfold valsI
    rw [ByteArray.size_append]
    cases i.had <;> cases i.has <;> simp only [if_true, if_false, Bool.false_eq_true, shortV_size]
    · decide
    · show 0 + _ ≤ 130; omega
    · show _ + 0 ≤ 130; omega
    · omega
  omega
theorem imsT_size : ∀ (l : List ImT) (s : ByteArray), (∀ i ∈ l, imgB i = true) → s.size ≤ (imsT s l).size ∧ (imsT s l).size ≤ s.size + 500 * l.length
  | [], s, _ => ⟨Nat.le_refl _, by unfold imsT; omega⟩
  | x :: t, s, h => by
    obtain ⟨h1, h2⟩ := imsT_size t (s ++ imV x) fun i hi => h i (List.mem_cons_of_mem _ hi)
    have h3 := imV_size (h x (List.mem_cons_self ..))
    rw [ByteArray.size_append] at h1 h2
    unfold imsT
    rw [List.length_cons]
    omega
theorem putIms_loop (l : List ImT) (h : shIms l) (hB : imgsB l = true) : ∀ (m i : Nat) (s : ByteArray), m + i = l.length → s.size ≤ 10 + 500 * i →
    LoopsTo (rdB brC Tryz.prog kcb6 lp_putIms LO_putIms Tryz.f16 6 []) [aP (pIms l), aBl 3 s, aP (pIms l), aI l.length, aI i] (.exit 0, [aP (pIms l), aBl 3 (imsT s (l.drop i))]) := by
  have hl := h.1
  obtain ⟨h240, hall⟩ := imgsB_inv hB
  intro m
  induction m with
  | zero =>
    intro i s hi hs
    rw [List.drop_eq_nil_of_le (by omega)]
    refine .done _ _ ((r_putIms_eq l l s i).trans ?_)
    rw [dF (by omega)]
    rfl
  | succ m ih =>
    intro i s hi hs
    have hil : i < l.length := by omega
    have hsi := shIm_at h hil
    have tree := r_putIms_eq l l s i
    have zi := imV_size (hall l[i] (List.getElem_mem hil))
    have iB : isBy (.sl s.size (bytesP s)) = true := isBy_mk (show s.size ≤ 100000000 by omega)
    have aB : asBy (.sl s.size (bytesP s)) = s := asBy_mk s
    have q1 : holds (s.size + (imV l[i]).size ≤ 100000000) = true := holds_mk (by omega)
    rw [Int.toNat_natCast, iB, aB] at tree
    simp (disch := first | omega | rfl) only [drop_encIm l i hil, isIm, isIm_mk hsi, asIm_mk, q1, decide_true, dT, Int.toNat_natCast, List.length_cons, List.headD_cons, List.tail_cons, List.drop_zero, List.drop_succ_cons, PV.isStr, PV.asStr, PV.isSl, PV.slN, PV.slL, PV.isInt, PV.asInt, PV.isBool, PV.asBool, ble1, ble2, ble3, ble4, ble5, ble6, blt0, wrap1, Nat.beq_refl, Bool.and_true, Bool.true_and] at tree
    have := ih (i + 1) (s ++ imV l[i]) (by omega) (by rw [ByteArray.size_append]; omega)
    rw [List.drop_eq_getElem_cons hil]
    exact .step _ _ _ tree this
theorem putI_eq (l : List ImT) : putI l = if imgsB l = true then imsT (litV (l.length : Int) 1) l else ⟨#[]⟩ := hidS_eq _
theorem ok_putIms : EntryOk Tryz.prog 16 E_putIms := entry_of mix ok_kcb6 (lp := lp_putIms) (LO := LO_putIms) ⟨Tryz.func16, by kernel_rfl, by kernel_rfl⟩ (by kernel_rfl) fun ivs res bxs h => by
  unfold E_putIms at h
  split at h
  · rename_i p
    obtain ⟨hc, he⟩ := pick1 h
    cases he
    obtain ⟨l, rfl, h_l⟩ := isE_inv hc
    have e_l : asIms (pIms l) = l := asIms_mk l
    have i_l : isIms (pIms l) = true := isIms_mk h_l
    rw [e_l]
    refine ⟨oneLoop 6 (by kernel_rfl) (by kernel_rfl) (by kernel_rfl) ?_, (q_putIms_eq l).trans ?_⟩
    · intro ls e ls' hl
      replace hl : pickA (LO_putIms_6 ls) = some (e, ls') := hl
      unfold LO_putIms_6 at hl
      split at hl
      · rename_i p y q e2 n2 l2 p2 m i
        obtain ⟨hc, he⟩ := pick1 hl
        cases he
        obtain ⟨hc, k10⟩ := andE hc
        obtain ⟨hc, k9⟩ := andE hc
        obtain ⟨hc, k8⟩ := andE hc
        obtain ⟨hc, k7⟩ := andE hc
        obtain ⟨hc, k6⟩ := andE hc
        obtain ⟨hc, k5⟩ := andE hc
        obtain ⟨hc, k4⟩ := andE hc
        obtain ⟨hc, k3⟩ := andE hc
        obtain ⟨hc, k2⟩ := andE hc
        obtain ⟨k0, k1⟩ := andE hc
        obtain ⟨t, rfl, h_t⟩ := isE_inv k0
        obtain ⟨u, rfl, h_u⟩ := isE_inv k1
        obtain ⟨s, q_s, h_s⟩ := isE_inv k6
        injection q_s with qa qb
        subst qa
        subst qb
        have e_t : asIms (pIms t) = t := asIms_mk t
        have e_u : asIms (pIms u) = u := asIms_mk u
        have e_s : asBy (.sl s.size (bytesP s)) = s := asBy_mk s
        rw [e_t, e_u] at k2
        rw [e_u] at k7 k9 ⊢
        rw [e_s] at k10 ⊢
        have k2 := holds_inv k2
        subst k2
        obtain rfl := Nat.eq_of_beq_eq_true k3
        obtain rfl := Nat.eq_of_beq_eq_true k4
        obtain rfl := Nat.eq_of_beq_eq_true k5
        obtain rfl := eq_of_beq k7
        obtain rfl := eq_of_beq k8
        exact putIms_loop t h_t k9 t.length 0 s (by omega) (by have := holds_inv k10; omega)
      · cases hl
    · have i2 : isIms (PV.sl l.length (encIm l)) = true := i_l
      have e2 : asIms (PV.sl l.length (encIm l)) = l := e_l
      have z := litV_size (l.length : Int) 1
      have iB : isBy (.sl (litV (l.length : Int) 1).size (bytesP (litV (l.length : Int) 1))) = true := isBy_mk (show (litV (l.length : Int) 1).size ≤ 100000000 by omega)
      have aB : asBy (.sl (litV (l.length : Int) 1).size (bytesP (litV (l.length : Int) 1))) = litV (l.length : Int) 1 := asBy_mk _
      have q1 : holds ((litV (l.length : Int) 1).size ≤ 100000000) = true := holds_mk (by omega)
      have q2 : holds ((litV (l.length : Int) 1).size ≤ 10) = true := holds_mk (by omega)
      have q3 : holds (l = l) = true := holds_mk rfl
      rw [putI_eq, iB, aB, i2, e2]
      rw [q1, q2, q3]
      cases hB : imgsB l with
      | false =>
        rw [if_neg Bool.false_ne_true]
        rfl
      | true =>
        obtain ⟨h240, hall⟩ := imgsB_inv hB
        obtain ⟨s1, s2⟩ := imsT_size l (litV (l.length : Int) 1) hall
        have iB2 : isBy (.sl (imsT (litV (l.length : Int) 1) l).size (bytesP (imsT (litV (l.length : Int) 1) l))) = true := isBy_mk (show (imsT (litV (l.length : Int) 1) l).size ≤ 100000000 by omega)
        have aB2 : asBy (.sl (imsT (litV (l.length : Int) 1) l).size (bytesP (imsT (litV (l.length : Int) 1) l))) = imsT (litV (l.length : Int) 1) l := asBy_mk _
        rw [iB2, aB2, Nat.ble_eq_true_of_le (show 1 ≤ (imsT (litV (l.length : Int) 1) l).size by omega), if_pos rfl, beq_self_eq_true]
        rfl
  · cases h
end
section
open Go.RowKit
set_option linter.unusedVariables false
set_option linter.unusedSimpArgs false
structure RdT where
  r : ByteArray
  b : Bool
  im : ImT
noncomputable def kName (a : ByteArray) : ByteArray := bif holds (isKy a) then (deKy a).1 else ⟨#[]⟩
noncomputable def kSubs (a : ByteArray) : List ByteArray := bif holds (isKy a) then (deKy a).2 else []
def bit (n : Int) (k : Int) : Bool := bits .and .i64 n k == k
def t1S (r : ByteArray) : ByteArray := tkS (tkR r 1) (oneV r).toNat
def t1R (r : ByteArray) : ByteArray := tkR (tkR r 1) (oneV r).toNat
def t1B (r : ByteArray) (b : Bool) : Bool := tkB (tkR r 1) (tkB r b 1) (oneV r).toNat
def r3 (r : ByteArray) : ByteArray := tkR (t1R r) 1
def b3 (r : ByteArray) (b : Bool) : Bool := tkB (t1R r) (t1B r b) 1
def flI (r : ByteArray) : Int := oneV (t1R r)
noncomputable def rd1 (r : ByteArray) (b : Bool) : RdT :=
  let had := bit (flI r) 1
  let has := bit (flI r) 2
  let r4 := bif had then t1R (r3 r) else r3 r
  let b4 := bif had then t1B (r3 r) (b3 r b) else b3 r b
  let was := bif had then t1S (r3 r) else ⟨#[]⟩
  let r5 := bif has then t1R r4 else r4
  let b5 := bif has then t1B r4 b4 else b4
  let is := bif has then t1S r4 else ⟨#[]⟩
  ⟨r5, b5, ⟨kName (t1S r), kSubs (t1S r), had, was, has, is⟩⟩
noncomputable def rdN : Nat → ByteArray → Bool → List ImT → ByteArray × Bool × List ImT
  | 0, r, b, l => (r, b, l)
  | n + 1, r, b, l => if b = true then (r, b, l) else rdN n (rd1 r b).r (rd1 r b).b (l ++ [(rd1 r b).im])
noncomputable def kdb0 : List (FuncId × Entry) := (15, E_take) :: (13, E_rone) :: (14, E_KeyPl) :: [(16, E_putIms)]
abbrev lp_gi : List (Nat × List Nat × List Nat) := [(3, [0, 4, 5, 6], [0, 4, 5]), (1000000, [15], [64]), (1000002, [65], [])]
abbrev aRd (slot : Nat) (r : ByteArray) (b : Bool) : AV × Option Ob := aBx slot (rdr r b)
abbrev aI0 (slot : Nat) : AV × Option Ob := aM slot 6 37 0 []
abbrev aIs (slot : Nat) (l : List ImT) : AV × Option Ob := (.own (4096 * slot), some (.dls 6 37 l.length (encIm l) true none))
noncomputable def LO_gi_3 (ls : LS) : List (Bool × Ex × LS) := match ls with
  | [(.pv (.str s), none), (.ptr x 0, some (.box [.pv (.str r), .pv (.bool b)])), (.own y, some (.lst 6 e c l true)), (.pv (.int .i64 n), none)] =>
    [(Nat.beq x 16384 && Nat.beq y 20480 && Nat.beq e 37 && Nat.beq c 0 && nilB l && (decide (n ≤ 0) || b), .exit 0, [aS s, aRd 4 r b, aI0 5]),
     (Nat.beq x 16384 && Nat.beq y 20480 && Nat.beq e 37 && Nat.beq c 0 && nilB l && decide (0 ≤ n) && decide (n ≤ 255) && holds (r.size ≤ 2000000), .exit 0, [aS s, aRd 4 (rdN n.toNat r b []).1 (rdN n.toNat r b []).2.1, aIs 5 (rdN n.toNat r b []).2.2])]
  | _ => []
noncomputable def LO_gi : LoopT := fun k ls => bif Nat.beq k 3 then LO_gi_3 ls else []
noncomputable def r_gi0 (br : Br) (s r : ByteArray) (b : Bool) (n : Int) := rdB br Tryz.prog kdb0 lp_gi LO_gi Tryz.f5 3 [] [aS s, aRd 4 r b, aI0 5, aI n]
noncomputable def r_gi (br : Br) (s r : ByteArray) (b : Bool) (l : List ImT) (n : Int) := rdB br Tryz.prog kdb0 lp_gi LO_gi Tryz.f5 3 [] [aS s, aRd 4 r b, aIs 5 l, aI n]
noncomputable def q_gi (br : Br) (s : ByteArray) := evB br Tryz.prog kdb0 lp_gi LO_gi Tryz.f5 [cS s]
def isImgs (s : ByteArray) : Prop := ∃ xs : List ImT, imgsB xs = true ∧ s = putI xs
noncomputable def decI (s : ByteArray) : List ImT := @Classical.epsilon _ ⟨[]⟩ fun xs : List ImT => imgsB xs = true ∧ s = putI xs
noncomputable def E_gi : Entry := fun ivs => match ivs with
  | [.cv (.pv (.str s))] =>
    [(decide (s.size ≤ 2000000) && holds (isImgs s) && Nat.beq (decI s).length 0, .tup [.cv (.lst 6 37 0 [] true), cB true], []),
     (decide (s.size ≤ 2000000) && holds (isImgs s), .tup [.cv (.dls 6 37 (decI s).length (encIm (decI s))), cB true], []),
     (decide (s.size ≤ 2000000), .tup [cP .nils, cB false], [])]
  | _ => []
end
end Go.Proofs.YtlenmjklpiccdaaGreatDoor
