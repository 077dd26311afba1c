import Derived.Test.YtobhacnimkccmaaGreatDoorYYh
import Derived.Test.YtobhacnimkccmaaGreatDoorYYg
import Derived.Test.YtobhacnimkccmaaGreatDoorYYe
import Derived.Lib.Builder
import Derived.Lib.UnsafeStr
import Derived.Test.YtobhacnimkccmaaGreatDoorYYf
namespace Go.Proofs.YtobhacnimkccmaaGreatDoor
set_option linter.unusedVariables false
set_option linter.unusedSimpArgs false
set_option maxRecDepth 100000
section
open Go.RowKit
theorem jjA : jab Tryz.prog 244 E_l01Canon := ⟨⟨_, Tryz.func244, by kernel_rfl, by kernel_rfl⟩, fun ivs res bxs h => by
  unfold E_l01Canon at h
  split at h
  · rename_i s
    obtain ⟨hc, he⟩ := pick1 h
    cases he
    have hc := of_decide_eq_true hc
    refine jaY (ps := [.str s]) (v := .bool (jau s.data.toList)) rfl fun w com vals hv _ => ?_
    obtain ⟨v, vs, rfl, hv1, hn⟩ := hv.of_cons
    rw [hn.of_nil]
    cases hv1
    exact jcU s w (by omega)
  · cases h⟩
theorem jp9 : jab Tryz.prog 245 E_l01Of := ⟨⟨_, Tryz.func245, by kernel_rfl, by kernel_rfl⟩, fun ivs res bxs h => by
  unfold E_l01Of at h
  split at h
  · rename_i s
    obtain ⟨hc, he⟩ := pick1 h
    cases he
    have hc := of_decide_eq_true hc
    refine jaY (ps := [.str s]) (v := .int .i64 (numOf s.data.toList)) rfl fun w com vals hv _ => ?_
    obtain ⟨v, vs, rfl, hv1, hn⟩ := hv.of_cons
    rw [hn.of_nil]
    cases hv1
    refine (jdQ s w (by omega)).mono ?_
    rintro e w' ⟨rfl, rfl⟩
    exact ⟨rfl, Below.refl _ _⟩
  · cases h⟩
theorem js8 : jae Tryz.prog kbb0 := ⟨jjA, jp9, trivial⟩
theorem jnF (n : Nat) : keyH n = 1 :: beK 8 n := jhF _
theorem u8m (n : Nat) : UInt8.ofNat (n % 256) = UInt8.ofNat n := by
  apply UInt8.toNat_inj.1
  simp
theorem jqS (n k : Nat) (hk : k ≤ 7) : IntKind.wrap .u8 (Int.fdiv (n : Int) (2 ^ min (Int.toNat (IntKind.wrap .i64 (8 * (k : Int)))) 64)) = (((UInt8.ofNat (n / 256 ^ k % 256)).toNat : Nat) : Int) := by
  have e : min (Int.toNat (IntKind.wrap .i64 (8 * (k : Int)))) 64 = 8 * k := by rw [wrapI (by omega) (by omega)]; omega
  have p : (2 : Int) ^ (8 * k) = ((256 ^ k : Nat) : Int) := by
    rw [show (256 : Nat) = 2 ^ 8 from rfl, ← Nat.pow_mul]
    push_cast
    rfl
  rw [e, p, u8m, Int.fdiv_eq_ediv_of_nonneg _ (Int.natCast_nonneg _), ← Int.natCast_ediv, u8w]
theorem jou (s : ByteArray) (n : Nat) : ∀ (k : Nat) (l : List UInt8), k ≤ 8 → l.length ≤ 10 - k → LoopsTo (rdB brC Tryz.prog kbb0 jg1 jgH Tryz.f213 6 []) [aS s, oB 3 (pvB l), aI n, aI ((k : Int) - 1)] (.exit 0, [aS s, oB 3 (pvB (l ++ beK k n))]) := by
  intro k
  induction k with
  | zero =>
    intro l h1 h2
    refine .done _ _ ((jju _ _ _ _).trans ?_)
    rw [dF (by omega), show beK 0 n = [] from rfl, List.append_nil]
    rfl
  | succ k ih =>
    intro l h1 h2
    have tree := jju s l (n : Int) (((k + 1 : Nat) : Int) - 1)
    rw [show (((k + 1 : Nat) : Int) - 1) = (k : Int) by omega] at tree ⊢
    have w0 : IntKind.wrap .i64 (8 * (k : Int)) = 8 * (k : Int) := wrapI (by omega) (by omega)
    have w1 : IntKind.wrap .i64 ((k : Int) - 1) = (k : Int) - 1 := wrapI (by omega) (by omega)
    generalize hc : UInt8.ofNat (n / 256 ^ k % 256) = c
    have e0 := jqS n k (by omega)
    rw [hc] at e0
    have e1 : pvB l ++ [PV.int .u8 ((c.toNat : Nat) : Int)] = pvB (l ++ [c]) := (jb6 l [c]).symm
    have e2 : (pvB l).length + 1 = (pvB (l ++ [c])).length := by rw [jb6, List.length_append]; rfl
    have e3 : (pvB (l ++ [c])).length = l.length + 1 := by rw [jcR, List.length_append]; rfl
    rw [e0, w1, e1, e2, w0] at tree
    simp (disch := omega) only [dT, Bool.and_true, show Nat.beq (List.length [PV.int IntKind.u8 ((c.toNat : Nat) : Int)]) (1 * 1) = true from rfl] at tree
    have := ih (l ++ [c]) (by omega) (by rw [List.length_append]; simp only [List.length_singleton]; omega)
    rw [List.append_assoc, show [c] ++ beK k n = beK (k + 1) n by rw [← hc]; rfl] at this
    exact .step _ _ _ tree this
theorem jmP (s : ByteArray) (hs : s.size ≤ 1000000) : ∀ (m i : Nat) (l : List UInt8), m + i = s.data.toList.length → l.length ≤ 2 * i + 1 → LoopsTo (rdB brC Tryz.prog kbb0 jg1 jgH Tryz.f213 12 []) [aS s, oB 3 (pvB l), aI i] (.exit 2, [aS s, oB 3 (pvB (l ++ escS (s.data.toList.drop i)))]) := by
  have hl : s.size = s.data.toList.length := jac s
  intro m
  induction m with
  | zero =>
    intro i l h1 h2
    refine .done _ _ ((jgZ _ _ _).trans ?_)
    rw [dF (by omega), List.drop_eq_nil_of_le (by omega), show escS [] = [] from rfl, List.append_nil]
    rfl
  | succ m ih =>
    intro i l h1 h2
    have hi : i < s.data.toList.length := by omega
    have tree := jgZ s l i
    have hg : s.data.toList.getD i 0 = s.data.toList[i] := by rw [List.getD_eq_getElem?_getD, List.getElem?_eq_getElem hi]; rfl
    have hd : s.data.toList.drop i = s.data.toList[i] :: s.data.toList.drop (i + 1) := List.drop_eq_getElem_cons hi
    generalize hc : s.data.toList[i] = c at hg hd
    have w1 : IntKind.wrap .i64 ((i : Int) + 1) = ((i + 1 : Nat) : Int) := by rw [wrapI (by omega) (by omega)]; omega
    have e1 : pvB l ++ [PV.int .u8 ((c.toNat : Nat) : Int)] = pvB (l ++ [c]) := (jb6 l [c]).symm
    have e2 : (pvB l).length + 1 = (pvB (l ++ [c])).length := by rw [jb6, List.length_append]; rfl
    have e3 : (pvB (l ++ [c])).length = l.length + 1 := by rw [jcR, List.length_append]; rfl
    have e4 : pvB (l ++ [c]) ++ [PV.int .u8 255] = pvB (l ++ [c] ++ [255]) := (jb6 (l ++ [c]) [255]).symm
    have e5 : (pvB (l ++ [c])).length + 1 = (pvB (l ++ [c] ++ [255])).length := by rw [jb6 (l ++ [c]), List.length_append]; rfl
    rw [Int.toNat_natCast, hg, w1, e1, e2, e4, e5] at tree
    have e6 : (pvB (l ++ [c] ++ [255])).length = l.length + 2 := by rw [← e5, e3]
    simp (disch := omega) only [dT, Bool.and_true, Bool.true_and, Nat.beq_refl, show Nat.beq (List.length [PV.int IntKind.u8 ((c.toNat : Nat) : Int)]) (1 * 1) = true from rfl] at tree
    rw [hd]
    unfold escS
    by_cases h0 : c = 0
    · rw [if_pos h0]
      rw [show (((c.toNat : Nat) : Int) == 0) = true by rw [h0]; rfl] at tree
      have := ih (i + 1) (l ++ [c] ++ [255]) (by omega) (by simp only [List.length_append, List.length_singleton]; omega)
      rw [show l ++ [c] ++ [255] ++ escS (List.drop (i + 1) s.data.toList) = l ++ 0 :: 255 :: escS (List.drop (i + 1) s.data.toList) by rw [h0]; simp] at this
      exact .step _ _ _ tree this
    · rw [if_neg h0]
      rw [show (((c.toNat : Nat) : Int) == 0) = false from beq_eq_false_iff_ne.2 fun e => h0 (UInt8.toNat_inj.1 (by show c.toNat = 0; omega))] at tree
      have := ih (i + 1) (l ++ [c]) (by omega) (by simp only [List.length_append, List.length_singleton]; omega)
      rw [show l ++ [c] ++ escS (List.drop (i + 1) s.data.toList) = l ++ c :: escS (List.drop (i + 1) s.data.toList) by simp] at this
      exact .step _ _ _ tree this
theorem jtP : jab Tryz.prog 213 E_key := jad mix js8 (lp := jg1) (LO := jgH) ⟨Tryz.func213, by kernel_rfl, by kernel_rfl⟩ (by kernel_rfl) fun ivs res bxs h => by
  unfold E_key at h
  split at h
  · rename_i s
    obtain ⟨hc, he⟩ := pick1 h
    cases he
    have hs := of_decide_eq_true hc
    have hl : s.size = s.data.toList.length := jac s
    refine ⟨jnu [6, 12] (by kernel_rfl) (fun k hk => by
      simp only [List.mem_cons, List.not_mem_nil, or_false] at hk
      rcases hk with rfl | rfl <;> kernel_rfl) fun k hk => ?_, (jqN s).trans ?_⟩
    · simp only [List.mem_cons, List.not_mem_nil, or_false] at hk
      rcases hk with rfl | rfl
      · refine ⟨jap (by kernel_rfl), ?_⟩
        intro ls e ls' hl
        replace hl : pickA (jg5 ls) = some (e, ls') := hl
        unfold jg5 at hl
        split at hl
        · rename_i s x e c l n k
          obtain ⟨hc, he⟩ := pick1 hl
          cases he
          obtain ⟨hc, g6⟩ := andE hc
          obtain ⟨hc, g5⟩ := andE hc
          obtain ⟨hc, g4⟩ := andE hc
          obtain ⟨hc, g3⟩ := andE hc
          obtain ⟨hc, g2⟩ := andE hc
          obtain ⟨g0, g1⟩ := andE hc
          have g0 := of_decide_eq_true g0
          rw [nqB g2, nqB g3, nqB g4, jak g5, eq_of_beq g6, jnF]
          have := jou s n.toNat 8 [1] (by omega) (by decide)
          rw [show ((n.toNat : Nat) : Int) = n by omega] at this
          exact this
        · cases hl
      · refine ⟨jap (by kernel_rfl), ?_⟩
        intro ls e ls' hl
        replace hl : pickA (jfD ls) = some (e, ls') := hl
        unfold jfD at hl
        split at hl
        · rename_i s x e c l i
          obtain ⟨hc, he⟩ := pick1 hl
          cases he
          obtain ⟨hc, g6⟩ := andE hc
          obtain ⟨hc, g5⟩ := andE hc
          obtain ⟨hc, g4⟩ := andE hc
          obtain ⟨hc, g3⟩ := andE hc
          obtain ⟨g0, g2⟩ := andE hc
          rw [nqB g2, nqB g3, nqB g4, jak g5, eq_of_beq g6, jhF]
          exact jmP s (of_decide_eq_true g0) s.data.toList.length 0 [2] rfl (by decide)
        · cases hl
    · have hr := jaR s.data.toList
      have w1 : IntKind.wrap .i64 (numOf s.data.toList + 1000000000000000000) = numOf s.data.toList + 1000000000000000000 := wrapI (by omega) (by omega)
      have f1 : holds ([PV.int IntKind.u8 1] = [PV.int IntKind.u8 ((1 : Nat) : Int)]) = true := jag rfl
      have f2 : holds ([PV.int IntKind.u8 2] = [PV.int IntKind.u8 ((2 : Nat) : Int)]) = true := jag rfl
      have f3 : holds (numOf s.data.toList + 1000000000000000000 ≤ 2000000000000000000) = true := jag (by omega)
      have eb : pvB (hidL (2 :: escS s.data.toList)) ++ [PV.int IntKind.u8 0, PV.int IntKind.u8 0] = pvB (2 :: escS s.data.toList ++ [0, 0]) := by rw [jhF]; exact (jb6 _ [0, 0]).symm
      have el : (pvB (hidL (2 :: escS s.data.toList))).length + 2 = (pvB (2 :: escS s.data.toList ++ [0, 0])).length := by rw [jhF, jcR, jcR, List.length_append]; rfl
      have es := jeS s.data.toList
      have el2 : (pvB (2 :: escS s.data.toList ++ [0, 0])).length = (escS s.data.toList).length + 3 := by rw [jcR, List.length_append]; rfl
      rw [w1, f3, jnF, eb, el]
      cases hcn : jau s.data.toList with
      | true =>
        simp (disch := omega) only [dT, f1, Bool.and_true, Bool.true_and, Nat.beq_refl, beq_self_eq_true, jbt, Option.isSome_some, Option.getD_some, show holds True = true from jag trivial]
        have : encS s.data.toList = 1 :: beK 8 (numOf s.data.toList + 1000000000000000000).toNat := by unfold encS; rw [if_pos hcn]
        rw [this]
        rfl
      | false =>
        simp (disch := omega) only [dT, f2, Bool.and_true, Bool.true_and, Nat.beq_refl, beq_self_eq_true, jbt, Option.isSome_some, Option.getD_some, show holds True = true from jag trivial]
        have : encS s.data.toList = 2 :: (escS s.data.toList ++ [0, 0]) := by unfold encS; rw [if_neg (by rw [hcn]; exact Bool.false_ne_true)]
        rw [this]
        rfl
  · cases h
theorem jtj : jae Tryz.prog kbb1 := ⟨jtP, trivial⟩
theorem jgd (a b : List UInt8) : bs a ++ bs b = bs (a ++ b) := by
  apply ByteArray.ext
  apply Array.ext'
  show (bs a ++ bs b).data.toList = _
  rw [ByteArray.data_append, Array.toList_append, jaF, jaF]
  exact (jaF _).symm
theorem jqI (xs : List ByteArray) (h4 : xs.length ≤ 4) (h24 : ∀ s ∈ xs, s.size ≤ 24) : ∀ (m i : Nat), m + i = xs.length → LoopsTo (rdB brC Tryz.prog kbb1 jln jld Tryz.f163 3 []) [aP (pL xs), aS (bs (encL (xs.take i))), aI i] (.exit 0, [aP (pL xs), aS (bs (encL xs))]) := by
  intro m
  induction m with
  | zero =>
    intro i hm
    refine .done _ _ ((jk9 xs _ _).trans ?_)
    rw [dF (by omega), List.take_of_length_le (by omega)]
    rfl
  | succ m ih =>
    intro i hm
    have hi : i < xs.length := by omega
    have hz := h24 _ (List.getElem_mem hi)
    have tree := jk9 xs (bs (encL (xs.take i))) i
    have ih' := ih (i + 1) (by omega)
    have e1 := jdX (xs.take i) fun s hs => h24 s (List.mem_of_mem_take hs)
    rw [List.length_take] at e1
    have e2 := jlg xs[i].data.toList
    rw [← jac] at e2
    have e3 : (bs (encL (xs.take i))).size = (encL (xs.take i)).length := ja5 _
    have e4 : (bs (encS xs[i].data.toList)).size = (encS xs[i].data.toList).length := ja5 _
    have e5 : bs (encL (xs.take i)) ++ bs (encS xs[i].data.toList) = bs (encL (xs.take (i + 1))) := by
      rw [jgd, List.take_succ_eq_append_getElem hi, jli]
      congr 2
      show _ = encS _ ++ []
      rw [List.append_nil]
    simp (disch := omega) only [dT, Int.toNat_natCast, jaJ xs i hi, List.length_cons, List.headD_cons, PV.isStr, PV.asStr, blt0, wrap1, e5, Bool.and_true] at tree
    exact .step _ _ _ tree ih'
theorem ji5 {t : ByteArray} (h : t.size = 0) : t = ⟨#[]⟩ := by
  have : t.data.toList = [] := List.length_eq_zero_iff.1 (by rw [← jac]; exact h)
  rw [← jaL t, this]
  rfl
theorem jrB : jab Tryz.prog 163 E_put := jad mix jtj (lp := jln) (LO := jld) ⟨Tryz.func163, by kernel_rfl, by kernel_rfl⟩ (by kernel_rfl) fun ivs res bxs h => by
  unfold E_put at h
  split at h
  · rename_i p
    obtain ⟨hc, he⟩ := pick1 h
    cases he
    obtain ⟨k0, k1⟩ := andE hc
    obtain ⟨xs, rfl, hx⟩ := jam k0
    have ea : asL (pL xs) = xs := jal xs
    rw [ea] at k1 ⊢
    refine ⟨jaw 3 (by kernel_rfl) (by kernel_rfl) (by kernel_rfl) ?_, (jrh xs).trans ?_⟩
    · intro ls e ls' hl
      replace hl : pickA (jhV ls) = some (e, ls') := hl
      unfold jhV at hl
      split at hl
      · rename_i p t i
        obtain ⟨hc, he⟩ := pick1 hl
        cases he
        obtain ⟨hc, g3⟩ := andE hc
        obtain ⟨hc, g2⟩ := andE hc
        obtain ⟨g0, g1⟩ := andE hc
        obtain ⟨ys, rfl, hy⟩ := jam g0
        have ey : asL (pL ys) = ys := jal ys
        rw [ey] at g1 ⊢
        obtain ⟨hy4, hy24⟩ := jbo g1
        rw [ji5 (nqB g2), eq_of_beq g3]
        exact jqI ys hy4 hy24 ys.length 0 rfl
      · cases hl
    · have e1 : isL (pL xs) = true := jaq hx
      rw [ea, e1, k1]
      rfl
  · cases h
theorem jsR : jae Tryz.prog kbb2 := ⟨jrB, jek, trivial⟩
theorem jjC : jab Tryz.prog 148 E_SPutSubs := jad mix jsR (lp := []) (LO := LO0) ⟨Tryz.func148, by kernel_rfl, by kernel_rfl⟩ (by kernel_rfl) fun ivs res bxs h => by
  unfold E_SPutSubs at h
  split at h
  · rename_i p
    obtain ⟨hc, he⟩ := pick1 h
    cases he
    obtain ⟨xs, rfl, hx⟩ := jam hc
    have ea : asL (pL xs) = xs := jal xs
    rw [ea]
    have e1 := jaq hx
    have e2 := jal xs
    refine ⟨jap (by kernel_rfl), (jh2 xs).trans ?_⟩
    unfold putL
    cases hB : subsB xs with
    | true =>
      simp only [isL, e1, jal, hB, Bool.and_true, if_true]
      rfl
    | false =>
      simp only [isL, e1, jal, hB, Bool.and_true, Bool.false_eq_true, if_false]
      rfl
  · cases h
theorem or8w (m b : Nat) (hb : b < 256) (hm : m < 72057594037927936) : bits .or .i64 (IntKind.wrap .i64 (((m * 256 : Nat) : Int))) ((b : Nat) : Int) = IntKind.wrap .i64 ((m * 256 + b : Nat) : Int) := by
  have h1 : (BitVec.ofInt 64 (IntKind.wrap .i64 ((m * 256 : Nat) : Int))).toNat = m * 256 := by
    rw [BitVec.toNat_ofInt, IntKind.wrap_i64]
    omega
  have h2 : (BitVec.ofInt 64 (b : Int)).toNat = b := by rw [BitVec.ofInt_natCast, BitVec.toNat_ofNat]; exact Nat.mod_eq_of_lt (by omega)
  show IntKind.i64.wrap ((BitVec.ofInt 64 (IntKind.wrap .i64 ((m * 256 : Nat) : Int)) ||| BitVec.ofInt 64 (b : Int)).toNat : Int) = _
  have h3 := Nat.two_pow_add_eq_or_of_lt (i := 8) (b := b) (by omega) m
  rw [BitVec.toNat_or, h1, h2, Nat.mul_comm m 256, show (256 : Nat) * m ||| b = 256 * m + b from h3.symm]
theorem jj3 (s : ByteArray) (hs : s.data.toList.length = 8) : ∀ (m i : Nat), m + i = 8 → LoopsTo (rdB brC Tryz.prog [] jdR jdT Tryz.f210 3 []) [aS s, aI (beW (s.data.toList.take i)), aI i] (.exit 0, [aS s, aI (beW s.data.toList)]) := by
  have hl : s.size = s.data.toList.length := jac s
  intro m
  induction m with
  | zero =>
    intro i hm
    refine .done _ _ ((je4 s _ _).trans ?_)
    rw [dF (by omega), List.take_of_length_le (by omega)]
    rfl
  | succ m ih =>
    intro i hm
    have ih' := ih (i + 1) (by omega)
    have hi : i < s.data.toList.length := by omega
    have tree := je4 s (beW (s.data.toList.take i)) i
    have hb := jrN (s.data.toList.take i) i (by rw [List.length_take]; omega)
    have hp : 256 ^ i ≤ 256 ^ 7 := Nat.pow_le_pow_right (by decide) (by omega)
    have big : (256 : Nat) ^ 7 = 72057594037927936 := by decide
    have hc := UInt8.toNat_lt s.data.toList[i]
    have hg : s.data.toList.getD i 0 = s.data.toList[i] := by rw [List.getD_eq_getElem?_getD, List.getElem?_eq_getElem hi]; rfl
    have e1 : beW (s.data.toList.take i) = ((beV (s.data.toList.take i) : Nat) : Int) := wrapI (by omega) (by omega)
    have e2 : ((beV (s.data.toList.take i) : Nat) : Int) * 2 ^ 8 = ((beV (s.data.toList.take i) * 256 : Nat) : Int) := by
      rw [show (2 : Int) ^ 8 = 256 from rfl]
      omega
    have e3 : IntKind.wrap .i64 ((s.data.toList[i].toNat : Nat) : Int) = ((s.data.toList[i].toNat : Nat) : Int) := wrapI (by omega) (by omega)
    have e4 : bits .or .i64 (IntKind.wrap .i64 ((beV (s.data.toList.take i) * 256 : Nat) : Int)) ((s.data.toList[i].toNat : Nat) : Int) = beW (s.data.toList.take (i + 1)) := by
      rw [or8w _ _ hc (by omega), List.take_succ_eq_append_getElem hi]
      unfold beW
      rw [jh3]
    rw [e1, e2, Int.toNat_natCast, hg, e3, e4] at tree
    simp (disch := omega) only [dT, wrap1, Bool.and_true] at tree
    rw [e1]
    exact .step _ _ _ tree ih'
theorem jo7 : jab Tryz.prog 210 E_l02Num := jad mix (tab := []) trivial (lp := jdR) (LO := jdT) ⟨Tryz.func210, by kernel_rfl, by kernel_rfl⟩ (by kernel_rfl) fun ivs res bxs h => by
  unfold E_l02Num at h
  split at h
  · rename_i s
    obtain ⟨hc, he⟩ := pick1 h
    cases he
    refine ⟨jaw 3 (by kernel_rfl) (by kernel_rfl) (by kernel_rfl) ?_, (jkQ s).trans ?_⟩
    · intro ls e ls' hl
      replace hl : pickA (jdz ls) = some (e, ls') := hl
      unfold jdz at hl
      split at hl
      · rename_i s n i
        obtain ⟨hc, he⟩ := pick1 hl
        cases he
        obtain ⟨hc, g2⟩ := andE hc
        obtain ⟨g0, g1⟩ := andE hc
        rw [eq_of_beq g1, eq_of_beq g2]
        have := jj3 s (by rw [← jac]; exact of_decide_eq_true g0) 8 0 rfl
        exact this
      · cases hl
    · rw [hc]
      rfl
  · cases h
theorem jr6 : jae Tryz.prog kbb3 := ⟨jo7, ok_In, jl5, trivial⟩
noncomputable abbrev tkR0 (s : ByteArray) (l d : List UInt8) : Ex × LS := match unesc d with
  | some p => (.ret, [aS s, aS (bs (l ++ p.1)), aS (bs p.2), aB true])
  | none => if un2 d = true then (.ret, [aS s, aS ⟨#[]⟩, aS ⟨#[]⟩, aB false]) else (.exit 0, [aS s, aX, aX, aX])
theorem jr1 (s : ByteArray) (hs : s.size ≤ 2000) : ∀ (m i : Nat) (l : List UInt8), s.size + 1 ≤ m + i → l.length ≤ i → i ≤ s.size + 1 → LoopsTo (rdB brC Tryz.prog kbb3 lp_tk LO_tk Tryz.f161 10 []) [aS s, oB 6 (pvB l), aI i] (tkR0 s l (s.data.toList.drop i)) := by
  have hl : s.size = s.data.toList.length := jac s
  intro m
  induction m with
  | zero =>
    intro i l h1 h2 h3
    refine .done _ _ ((jpe _ _ _).trans ?_)
    have w1 : IntKind.wrap .i64 ((i : Int) + 1) = ((i + 1 : Nat) : Int) := by rw [wrapI (by omega) (by omega)]; omega
    rw [w1, dF (by omega), List.drop_eq_nil_of_le (by omega)]
    rfl
  | succ m ih =>
    intro i l h1 h2 h3
    have tree := jpe s l i
    have w1 : IntKind.wrap .i64 ((i : Int) + 1) = ((i + 1 : Nat) : Int) := by rw [wrapI (by omega) (by omega)]; omega
    have w2 : IntKind.wrap .i64 (((i + 1 : Nat) : Int) + 1) = ((i + 2 : Nat) : Int) := by rw [wrapI (by omega) (by omega)]; omega
    have w3 : IntKind.wrap .i64 ((i : Int) + 2) = ((i + 2 : Nat) : Int) := by rw [wrapI (by omega) (by omega)]; omega
    rw [w1, w2, w3] at tree
    by_cases hi : i + 1 < s.data.toList.length
    · have hg : s.data.toList.getD i 0 = s.data.toList[i]'(by omega) := by rw [List.getD_eq_getElem?_getD, List.getElem?_eq_getElem (by omega)]; rfl
      have hg1 : s.data.toList.getD (i + 1) 0 = s.data.toList[i + 1] := by rw [List.getD_eq_getElem?_getD, List.getElem?_eq_getElem hi]; rfl
      have hd : s.data.toList.drop i = s.data.toList[i]'(by omega) :: s.data.toList.drop (i + 1) := List.drop_eq_getElem_cons (by omega)
      have hd1 : s.data.toList.drop (i + 1) = s.data.toList[i + 1] :: s.data.toList.drop (i + 2) := List.drop_eq_getElem_cons hi
      generalize hc : s.data.toList[i]'(by omega) = c at hg hd
      generalize he : s.data.toList[i + 1] = e at hg1 hd1
      have hx : s.extract (i + 2) s.size = bs (s.data.toList.drop (i + 2)) := by
        rw [jbq, List.take_of_length_le (by rw [List.length_drop]; omega)]
      have e1 : ∀ c : UInt8, pvB l ++ [PV.int .u8 ((c.toNat : Nat) : Int)] = pvB (l ++ [c]) := fun c => (jb6 l [c]).symm
      have e2 : ∀ c : UInt8, (pvB (l ++ [c])).length = l.length + 1 := fun c => by rw [jcR, List.length_append]; rfl
      have e3 : (pvB l).length = l.length := jcR l
      have e4 : pvB l ++ [PV.int .u8 0] = pvB (l ++ [0]) := e1 0
      have e5 : ({ data := List.toArray l } : ByteArray) = bs l := rfl
      rw [dT (show (((i + 1 : Nat) : Int) < (s.size : Int)) by omega), Int.toNat_natCast, Int.toNat_natCast, hg, hg1, e1, e4, jbt] at tree
      simp (disch := omega) only [dT, Int.toNat_natCast, hx, e3, Option.getD_some, Option.isSome_some, Nat.beq_refl, Bool.and_true, show Nat.beq (List.length [PV.int IntKind.u8 ((c.toNat : Nat) : Int)]) (1 * 1) = true from rfl] at tree
      by_cases h0 : c = 0
      · rw [show (((c.toNat : Nat) : Int) != 0) = false by rw [h0]; rfl] at tree
        by_cases h00 : e = 0
        · rw [show (((e.toNat : Nat) : Int) == 0) = true by rw [h00]; rfl] at tree
          have hu : unesc (s.data.toList.drop i) = some ([], s.data.toList.drop (i + 2)) := by
            rw [hd, hd1, h0, h00]
            unfold unesc
            rw [if_pos rfl, if_pos rfl]
          unfold tkR0
          rw [hu]
          dsimp only
          rw [List.append_nil]
          exact .done _ _ tree
        · rw [show (((e.toNat : Nat) : Int) == 0) = false from beq_eq_false_iff_ne.2 fun h => h00 (UInt8.toNat_inj.1 (by show e.toNat = 0; omega))] at tree
          by_cases h255 : e = 255
          · rw [show (((e.toNat : Nat) : Int) != 255) = false by rw [h255]; rfl] at tree
            have hu : unesc (s.data.toList.drop i) = (unesc (s.data.toList.drop (i + 2))).map (fun p => (0 :: p.1, p.2)) := by
              rw [hd, hd1, h0, h255]
              conv => lhs; unfold unesc
              rw [if_pos rfl, if_neg (by decide), if_pos rfl]
            have hn : un2 (s.data.toList.drop i) = un2 (s.data.toList.drop (i + 2)) := by
              rw [hd, hd1, h0, h255]
              conv => lhs; unfold un2
              rw [if_pos rfl, if_neg (by decide), if_pos rfl]
            have := ih (i + 2) (l ++ [0]) (by omega) (by rw [List.length_append]; simp only [List.length_singleton]; omega) (by omega)
            have er : tkR0 s (l ++ [0]) (s.data.toList.drop (i + 2)) = tkR0 s l (s.data.toList.drop i) := by
              unfold tkR0
              rw [hu, hn]
              cases unesc (s.data.toList.drop (i + 2)) with
              | none => rfl
              | some p =>
                dsimp only [Option.map_some]
                rw [List.append_assoc]
                rfl
            rw [← er]
            have e6 := e2 0
            rw [← e6] at tree
            exact .step _ _ _ tree this
          · rw [show (((e.toNat : Nat) : Int) != 255) = true from bne_iff_ne.2 fun h => h255 (UInt8.toNat_inj.1 (by show e.toNat = 255; omega))] at tree
            have hu : unesc (s.data.toList.drop i) = none := by
              rw [hd, hd1, h0]
              unfold unesc
              rw [if_pos rfl, if_neg h00, if_neg h255]
            have hn : un2 (s.data.toList.drop i) = true := by
              rw [hd, hd1, h0]
              unfold un2
              rw [if_pos rfl, if_neg h00, if_neg h255]
            unfold tkR0
            rw [hu, hn]
            exact .done _ _ tree
      · rw [show (((c.toNat : Nat) : Int) != 0) = true from bne_iff_ne.2 fun h => h0 (UInt8.toNat_inj.1 (by show c.toNat = 0; omega))] at tree
        have hu : unesc (s.data.toList.drop i) = (unesc (s.data.toList.drop (i + 1))).map (fun p => (c :: p.1, p.2)) := by
          rw [hd, hd1]
          conv => lhs; unfold unesc
          rw [if_neg h0]
        have hn : un2 (s.data.toList.drop i) = un2 (s.data.toList.drop (i + 1)) := by
          rw [hd, hd1]
          conv => lhs; unfold un2
          rw [if_neg h0]
        have := ih (i + 1) (l ++ [c]) (by omega) (by rw [List.length_append]; simp only [List.length_singleton]; omega) (by omega)
        have er : tkR0 s (l ++ [c]) (s.data.toList.drop (i + 1)) = tkR0 s l (s.data.toList.drop i) := by
          unfold tkR0
          rw [hu, hn]
          cases unesc (s.data.toList.drop (i + 1)) with
          | none => rfl
          | some p =>
            dsimp only [Option.map_some]
            rw [List.append_assoc]
            rfl
        rw [← er]
        have e6 := e2 c
        rw [← e6] at tree
        exact .step _ _ _ tree this
    · rw [dF (by omega)] at tree
      have hlen : (s.data.toList.drop i).length ≤ 1 := by rw [List.length_drop]; omega
      have hu : unesc (s.data.toList.drop i) = none ∧ un2 (s.data.toList.drop i) = false := by
        cases hd : s.data.toList.drop i with
        | nil => exact ⟨rfl, rfl⟩
        | cons c t =>
          rw [hd] at hlen
          have : t = [] := List.length_eq_zero_iff.1 (by rw [List.length_cons] at hlen; omega)
          subst this
          exact ⟨rfl, rfl⟩
      unfold tkR0
      rw [hu.1, hu.2]
      exact .done _ _ tree
theorem jt8 {l : List UInt8} (h : un2 l = true) : unesc l = none := by
  induction l using un2.induct with
  | case1 => cases h
  | case2 => cases h
  | case3 r => unfold un2 at h; rw [if_pos rfl, if_pos rfl] at h; cases h
  | case4 r h0 ih =>
    unfold un2 at h
    rw [if_pos rfl, if_neg h0, if_pos rfl] at h
    unfold unesc
    rw [if_pos rfl, if_neg h0, if_pos rfl, ih h]
    rfl
  | case5 d r h0 h1 =>
    unfold unesc
    rw [if_pos rfl, if_neg h0, if_neg h1]
  | case6 c d r h0 ih =>
    unfold un2 at h
    rw [if_neg h0] at h
    unfold unesc
    rw [if_neg h0, ih h]
    rfl
theorem ok_tk : jab Tryz.prog 161 E_tk := jad mix jr6 (lp := lp_tk) (LO := LO_tk) ⟨Tryz.func161, by kernel_rfl, by kernel_rfl⟩ (by kernel_rfl) fun ivs res bxs h => by
  unfold E_tk at h
  split at h
  · rename_i s
    obtain ⟨hc, he⟩ := pick1 h
    cases he
    obtain ⟨k0, k1⟩ := andE hc
    have h0 := of_decide_eq_true k0
    have hs := of_decide_eq_true k1
    have hl : s.size = s.data.toList.length := jac s
    refine ⟨jaw 10 (by kernel_rfl) (by kernel_rfl) (by kernel_rfl) ?_, (jsk s).trans ?_⟩
    · intro ls e ls' hl
      replace hl : pickA (jhh ls) = some (e, ls') := hl
      unfold jhh at hl
      split at hl
      · rename_i s x e c l i
        have key : (decide (s.size ≤ 2000) && Nat.beq x 24576 && Nat.beq e 5 && Nat.beq c 0 && nilB l && (i == 1)) = true → LoopsTo (rdB brC Tryz.prog kbb3 lp_tk LO_tk Tryz.f161 10 []) [aS s, (.own x, some (.lst 1 e c l false)), aI i] (tkR0 s [] (s.data.toList.drop 1)) := fun hc => by
          obtain ⟨hc, g5⟩ := andE hc
          obtain ⟨hc, g4⟩ := andE hc
          obtain ⟨hc, g3⟩ := andE hc
          obtain ⟨hc, g2⟩ := andE hc
          obtain ⟨g0, g1⟩ := andE hc
          rw [nqB g1, nqB g2, nqB g3, ja1 g4, eq_of_beq g5]
          exact jr1 s (of_decide_eq_true g0) s.size 1 [] (by omega) (by decide) (by omega)
        rcases jlU hl with ⟨hc, he⟩ | ⟨hn, hc, he⟩ | ⟨hn, hn2, hc, he⟩
        · cases he
          obtain ⟨hc, g⟩ := andE hc
          have k := key hc
          unfold gsO at g
          rw [jaF] at g
          obtain ⟨p, hp⟩ := Option.isSome_iff_exists.1 g
          unfold tkR0 at k
          rw [hp] at k
          have eT : gsT (bs (s.data.toList.drop 1)) = bs p.1 := by unfold gsT; rw [jaF, hp]; rfl
          have eR : gsR (bs (s.data.toList.drop 1)) = bs p.2 := by unfold gsR; rw [jaF, hp]; rfl
          rw [eT, eR]
          exact k
        · cases he
          obtain ⟨hc, g⟩ := andE hc
          have k := key hc
          unfold tkR0 at k
          rw [jt8 g, g] at k
          exact k
        · cases he
          have k := key hc
          rw [hc, Bool.true_and] at hn hn2
          unfold gsO at hn
          rw [jaF] at hn
          unfold tkR0 at k
          have hu : unesc (s.data.toList.drop 1) = none := by
            cases hu : unesc (s.data.toList.drop 1) with
            | none => rfl
            | some p => rw [hu] at hn; cases hn
          rw [hu, hn2] at k
          exact k
      · cases hl
    · have hx1 : s.extract 1 9 = bs ((s.data.toList.drop 1).take 8) := by rw [jbq]
      have hx9 : s.extract 9 s.size = bs (s.data.toList.drop 9) := by rw [jbq, List.take_of_length_le (by rw [List.length_drop]; omega)]
      unfold tkT tkL tkO sub2
      rw [hx1, jaF]
      generalize hW : beW ((s.data.toList.drop 1).take 8) = W
      generalize hcc : (((s.data.toList.getD 0 0).toNat : Nat) : Int) = c
      have fin : (brC (decide (s.size ≤ 2000) && Nat.beq 24576 24576 && Nat.beq 5 5 && Nat.beq 0 0 && nilB [] && (1 : Int) == 1 && gsO (bs (List.drop 1 s.data.toList)))
          (some ((IV.tup [cS (gsT (bs (List.drop 1 s.data.toList))), cS (gsR (bs (List.drop 1 s.data.toList))), cB true], ([] : List (List CV)))))
          (brC (decide (s.size ≤ 2000) && Nat.beq 24576 24576 && Nat.beq 5 5 && Nat.beq 0 0 && nilB [] && (1 : Int) == 1 && un2 (List.drop 1 s.data.toList))
            (some ((IV.tup [cS ⟨#[]⟩, cS ⟨#[]⟩, cB false], [])))
            (brC (decide (s.size ≤ 2000) && Nat.beq 24576 24576 && Nat.beq 5 5 && Nat.beq 0 0 && nilB [] && (1 : Int) == 1)
              (some ((IV.tup [cS ⟨#[]⟩, cS ⟨#[]⟩, cB false], [])))
              none))) = some (IV.tup [cS ((if gsO (bs (s.data.toList.drop 1)) = true then some (gsT (bs (s.data.toList.drop 1)), gsR (bs (s.data.toList.drop 1))) else none).getD (⟨#[]⟩, ⟨#[]⟩)).1, cS ((if gsO (bs (s.data.toList.drop 1)) = true then some (gsT (bs (s.data.toList.drop 1)), gsR (bs (s.data.toList.drop 1))) else none).getD (⟨#[]⟩, ⟨#[]⟩)).2, cB (if gsO (bs (s.data.toList.drop 1)) = true then some (gsT (bs (s.data.toList.drop 1)), gsR (bs (s.data.toList.drop 1))) else none).isSome], []) := by
        rw [k1, jbb]
        cases gsO (bs (s.data.toList.drop 1)) with
        | true => rfl
        | false => cases un2 (s.data.toList.drop 1) <;> rfl
      by_cases c1 : c = 1
      · by_cases h9 : 9 ≤ s.size
        · rw [if_pos ⟨c1, h9⟩]
          have z : (bs ((s.data.toList.drop 1).take 8)).size = 8 := by rw [ja5, List.length_take, List.length_drop]; omega
          rw [z, show (c == 1) = true from beq_iff_eq.2 c1]
          by_cases hr : 1 ≤ W ∧ W ≤ 1999999999999999999
          · rw [if_pos hr]
            have w1 : IntKind.wrap .i64 (W - 1000000000000000000) = W - 1000000000000000000 := wrapI (by omega) (by omega)
            have hin : numIn (W - 1000000000000000000) = true := jk6 (by omega) (by omega)
            simp (disch := omega) only [dT, w1, hin, hx9, Int.toNat_natCast, hr.1, hr.2, Bool.and_true, Option.getD_some, Option.isSome_some]
            rfl
          · rw [if_neg hr]
            have : (decide (1 ≤ W) && decide (W ≤ 1999999999999999999)) = false := by
              cases hb : (decide (1 ≤ W) && decide (W ≤ 1999999999999999999)) with
              | false => rfl
              | true =>
                rw [Bool.and_eq_true, decide_eq_true_eq, decide_eq_true_eq] at hb
                exact absurd hb hr
            rw [this]
            simp (disch := omega) only [dT, Bool.and_true]
            rfl
        · rw [if_neg (fun h => h9 h.2), if_neg (show ¬ c = 2 by omega)]
          rw [show (c == 1) = true from beq_iff_eq.2 c1, show (c != 2) = true from bne_iff_ne.2 (by omega)]
          rw [dF (show ¬ ((s.size : Int) ≥ 9) by omega)]
          simp (disch := omega) only [dT, Bool.and_true]
          rfl
      · rw [if_neg (fun h => c1 h.1)]
        rw [show (c == 1) = false from beq_eq_false_iff_ne.2 c1]
        rw [dT (show (0 : Int) < (s.size : Int) by omega)]
        by_cases c2 : c = 2
        · rw [if_pos c2, show (c != 2) = false by rw [c2]; rfl]
          exact fin
        · rw [if_neg c2, show (c != 2) = true from bne_iff_ne.2 c2]
          rfl
  · cases h
theorem jtt : jae Tryz.prog kbb4 := ⟨ok_tk, jrB, jek, trivial⟩
theorem jjd {r : ByteArray} {p : ByteArray × ByteArray} (h : sub2 r = some p) (hr : r.size ≤ 2000) : p.1.size ≤ 2000 ∧ p.2.size ≤ 2000 := by
  have a3 := jkn (bs (r.data.toList.drop 1))
  have hx : (bs (r.data.toList.drop 1)).size ≤ 2000 := by rw [ja5, List.length_drop, ← jac]; omega
  unfold sub2 at h
  split at h
  · split at h
    · rename_i hr2
      cases h
      have := jdi (n := beW ((r.data.toList.drop 1).take 8) - 1000000000000000000) ⟨by omega, by omega⟩
      refine ⟨?_, ?_⟩
      · dsimp only; rw [ja5]; omega
      · dsimp only; rw [ja5, List.length_drop, ← jac]; omega
    · cases h
  · split at h
    · split at h
      · cases h; exact ⟨by dsimp only; omega, by dsimp only; omega⟩
      · cases h
    · cases h
theorem jlu : ∀ (k : Nat) (xs : List ByteArray) (r : ByteArray), r.size ≤ 2000 → (∀ x ∈ xs, x.size ≤ 2000) → (∀ x ∈ (walkS k xs r).2.1, x.size ≤ 2000) ∧ (walkS k xs r).2.1.length ≤ xs.length + k
  | 0, xs, r, hr, hx => ⟨hx, Nat.le_refl _⟩
  | k + 1, xs, r, hr, hx => by
    unfold walkS
    split
    · exact ⟨hx, by dsimp only; omega⟩
    · cases hs : sub2 r with
      | none => exact ⟨hx, by dsimp only; omega⟩
      | some p =>
        obtain ⟨p1, p2⟩ := jjd hs hr
        obtain ⟨h1, h2⟩ := jlu k (xs ++ [p.1]) p.2 p2 fun x h => by
          rcases List.mem_append.1 h with h | h
          · exact hx x h
          · rw [List.mem_singleton.1 h]; exact p1
        refine ⟨h1, ?_⟩
        rw [List.length_append, List.length_singleton] at h2
        dsimp only
        omega
theorem jjh (s : ByteArray) : ∀ (m : Nat) (pre : List ByteArray) (r : ByteArray), m + pre.length = 5 → r.size ≤ 2000 → LoopsTo (rdB brC Tryz.prog kbb4 jfi jga Tryz.f106 3 []) [aS s, aLs 4 pre, aS r]
    (if (walkS m pre r).1 = true then (.exit 0, [aS s, aX, aX, aLs 4 (walkS m pre r).2.1, aS (walkS m pre r).2.2]) else (.ret, [aS s, aLs 2 [], aB false, aLs 4 (walkS m pre r).2.1, aS (walkS m pre r).2.2])) := by
  intro m
  induction m with
  | zero =>
    intro pre r hm hr
    refine .done _ _ ((ji4 s _ _ r).trans ?_)
    rw [dF (show ¬ ((pre.length : Nat) : Int) ≤ 4 by omega)]
    unfold walkS
    dsimp only
    rw [if_pos rfl]
    cases (r.toList == []) <;> rfl
  | succ m ih =>
    intro pre r hm hr
    have tree := ji4 s pre.length (pre.map .str) r
    unfold walkS
    cases he : (r.toList == ([] : List UInt8)) with
    | true =>
      rw [he] at tree
      rw [if_pos rfl]
      dsimp only
      rw [if_pos rfl]
      exact .done _ _ tree
    | false =>
      rw [he] at tree
      rw [if_neg Bool.false_ne_true]
      have h0 : 0 < r.size := by
        rcases Nat.eq_zero_or_pos r.size with h | h
        · have : r.toList = [] := List.length_eq_zero_iff.1 (by rw [ByteArray.toList_eq, ← jac]; exact h)
          rw [this] at he
          cases he
        · exact h
      have b1 : ∀ x : PV, Nat.beq (List.length [x]) (1 * 1) = true := fun _ => rfl
      simp (disch := omega) only [dT, Int.toNat_natCast, b1, Bool.and_true, Bool.true_and] at tree
      cases hsb : sub2 r with
      | none =>
        have hO : tkO r = false := by unfold tkO; rw [hsb]; rfl
        rw [hO] at tree
        dsimp only
        rw [if_neg Bool.false_ne_true]
        exact .done _ _ tree
      | some p =>
        have hO : tkO r = true := by unfold tkO; rw [hsb]; rfl
        have hT : tkT r = p.1 := by unfold tkT; rw [hsb]; rfl
        have hL : tkL r = p.2 := by unfold tkL; rw [hsb]; rfl
        rw [hO, hT, hL] at tree
        have := ih (pre ++ [p.1]) p.2 (by rw [List.length_append, List.length_singleton]; omega) (jjd hsb hr).2
        unfold aLs at this ⊢
        rw [List.length_append, List.length_singleton, List.map_append] at this
        exact .step _ _ _ tree this
theorem jqi (y : ByteArray) (r : List UInt8) : sub2 (bs (encS y.data.toList ++ r)) = some (y, bs r) := by
  have hg : ∀ (c : UInt8) (L : List UInt8), (bs (c :: L)).data.toList.getD 0 0 = c := fun c L => by rw [jaF]; rfl
  by_cases hcn : jau y.data.toList = true
  · have e : encS y.data.toList ++ r = 1 :: (beK 8 (numOf y.data.toList + 1000000000000000000).toNat ++ r) := by
      unfold encS
      rw [if_pos hcn]
      rfl
    rw [e]
    have hr := jaR y.data.toList
    generalize hn : (numOf y.data.toList + 1000000000000000000).toNat = n
    have htk : (beK 8 n ++ r).take 8 = beK 8 n := by rw [List.take_left' (jb2 8 n)]
    have hdr : (beK 8 n ++ r).drop 8 = r := by rw [List.drop_left' (jb2 8 n)]
    have hv : beV (beK 8 n) = n := by
      have big : (256 : Nat) ^ 8 = 18446744073709551616 := by decide
      have h := jjB 8 n 0
      rw [big] at h
      refine Eq.trans (show beV (beK 8 n) = (beK 8 n).foldl (fun n c => n * 256 + c.toNat) 0 from rfl) ?_
      omega
    have hw : beW (beK 8 n) = (n : Int) := by unfold beW; rw [hv]; exact wrapI (by omega) (by omega)
    have hnn : ((n : Nat) : Int) - 1000000000000000000 = numOf y.data.toList := by omega
    have h9 : 9 ≤ (bs (1 :: (beK 8 n ++ r))).size := by rw [ja5, List.length_cons, List.length_append, jb2]; omega
    have ht : bs (jas (numOf y.data.toList)) = y := by
      have := of_decide_eq_true hcn
      rw [this, jaL]
    unfold sub2
    rw [hg, if_pos ⟨(rfl : (((1 : UInt8).toNat : Nat) : Int) = 1), h9⟩, jaF, List.drop_succ_cons, List.drop_zero, htk, hw, if_pos (by omega), hnn, ht, List.drop_succ_cons, hdr]
  · have e : encS y.data.toList ++ r = 2 :: (escS y.data.toList ++ 0 :: 0 :: r) := by
      unfold encS
      rw [if_neg hcn]
      simp
    rw [e]
    have hu := jfQ y.data.toList r
    have hO : gsO (bs (escS y.data.toList ++ 0 :: 0 :: r)) = true := by unfold gsO; rw [jaF, hu]; rfl
    unfold sub2
    rw [hg, if_neg (fun h => absurd h.1 (by decide)), if_pos (show (((2 : UInt8).toNat : Nat) : Int) = 2 from rfl), jaF, List.drop_succ_cons, List.drop_zero, if_pos hO]
    unfold gsT gsR
    rw [jaF, hu]
    show some (bs y.data.toList, bs r) = _
    rw [jaL]
theorem jiO : ∀ (ys pre : List ByteArray) (m : Nat), ys.length ≤ m → walkS m pre (bs (encL ys)) = (true, pre ++ ys, ⟨#[]⟩)
  | [], pre, m, h => by
    cases m with
    | zero => unfold walkS; rw [List.append_nil]; rfl
    | succ m =>
      unfold walkS
      rw [jbl, if_pos (show (encL []).isEmpty = true from rfl), List.append_nil]
      rfl
  | y :: ys, pre, 0, h => by simp at h
  | y :: ys, pre, m + 1, h => by
    rw [List.length_cons] at h
    have ih := jiO ys (pre ++ [y]) m (by omega)
    obtain ⟨c, L, hL⟩ : ∃ c L, encL (y :: ys) = c :: L := jha y.data.toList (encL ys)
    unfold walkS
    rw [jbl, hL, if_neg (by simp), ← hL]
    rw [show encL (y :: ys) = encS y.data.toList ++ encL ys from rfl, jqi]
    dsimp only
    rw [ih, List.append_assoc]
    rfl
theorem jsu : jab Tryz.prog 106 E_sget := jfC mix jtt (lp := jfi) (LO := jga) ⟨Tryz.func106, by kernel_rfl, by kernel_rfl⟩ (by kernel_rfl) fun ivs res bxs h => by
  unfold E_sget at h
  split at h
  · rename_i s
    have LP : ∀ b ∈ jat (jbc Tryz.f106), jbk Tryz.prog (tabL kbb4) (OL jfi) Tryz.f106.ntmps (pbOf []) jga b := by
      refine jaw 3 (by kernel_rfl) (by kernel_rfl) (by kernel_rfl) ?_
      intro ls e ls' hl
      replace hl : pickA (jfU ls) = some (e, ls') := hl
      unfold jfU at hl
      split at hl
      · rename_i s x e cn cl r
        rcases pick2 hl with ⟨hc, he⟩ | ⟨hn, hc, he⟩
        · cases he
          obtain ⟨hc, g5⟩ := andE hc
          obtain ⟨hc, g4⟩ := andE hc
          obtain ⟨hc, g3⟩ := andE hc
          obtain ⟨hc, g2⟩ := andE hc
          obtain ⟨g0, g1⟩ := andE hc
          rw [nqB g2, nqB g3, nqB g4, ja1 g5]
          have := jjh s 5 [] r rfl (of_decide_eq_true g0)
          rw [g1, if_pos rfl] at this
          exact this
        · cases he
          obtain ⟨hc, g5⟩ := andE hc
          obtain ⟨hc, g4⟩ := andE hc
          obtain ⟨hc, g3⟩ := andE hc
          obtain ⟨g0, g2⟩ := andE hc
          have g1 : (walkS 5 [] r).1 = false := by
            cases hw : (walkS 5 [] r).1 with
            | false => rfl
            | true =>
              rw [g0, g2, g3, g4, g5, hw] at hn
              cases hn
          rw [nqB g2, nqB g3, nqB g4, ja1 g5]
          have := jjh s 5 [] r rfl (of_decide_eq_true g0)
          rw [g1, if_neg Bool.false_ne_true] at this
          exact this
      · cases hl
    have tree := jn9 s
    refine ⟨LP, ?_⟩
    rcases pick2 h with ⟨hc, he⟩ | ⟨hn, hc, he⟩
    · cases he
      obtain ⟨k0, k1⟩ := andE hc
      have hs := of_decide_eq_true k0
      obtain ⟨xs, hx, hB⟩ := jak k1
      obtain ⟨hx4, hx24⟩ := jbo hB
      have es : s = bs (encL xs) := by rw [← hx, jaL]
      have hw : walkS 5 [] s = (true, xs, ⟨#[]⟩) := by rw [es, jiO xs [] 5 (by omega)]; rfl
      have hsh : shL xs := ⟨by omega, fun z hz => by have := hx24 z hz; omega⟩
      have e1 := jaq hsh
      have e2 := jal xs
      have hq : (ByteArray.toList (bs (encL xs)) == ByteArray.toList s) = true := by rw [← es]; simp
      have hz : (ByteArray.toList (⟨#[]⟩ : ByteArray) == ([] : List UInt8)) = true := jbl []
      rw [hw] at tree
      rw [hx, jda]
      simp only [isL, k0, jbb, e1, jal, hB, hq, hz, Bool.and_true, Bool.true_and, Nat.beq_refl] at tree
      exact ⟨_, tree.trans rfl, rfl, rfl⟩
    · cases he
      have hs := of_decide_eq_true hc
      have hne : holds (isEnc s.data.toList) = false := by
        cases hh : holds (isEnc s.data.toList) with
        | false => rfl
        | true => rw [hc, hh] at hn; cases hn
      refine ⟨.tup [.cv (.lst 1 9 0 [] false), cB false], ?_, rfl, rfl⟩
      cases hw1 : (walkS 5 [] s).1 with
      | false =>
        simp only [hw1, hc, jbb, Bool.and_true, Bool.true_and, Bool.and_false, Bool.false_and, Nat.beq_refl] at tree
        exact tree.trans rfl
      | true =>
        obtain ⟨z1, z2⟩ := jlu 5 [] s hs (fun _ h => by cases h)
        have hsh : shL (walkS 5 [] s).2.1 := ⟨by simp at z2; omega, fun z hz => by have := z1 z hz; omega⟩
        have e1 := jaq hsh
        have e2 := jal (walkS 5 [] s).2.1
        rw [hw1] at tree
        simp only [isL, hc, jbb, e1, jal, Bool.and_true, Bool.true_and, Nat.beq_refl] at tree
        cases hz : (ByteArray.toList (walkS 5 [] s).2.2 == ([] : List UInt8)) with
        | false =>
          rw [hz] at tree
          exact tree.trans rfl
        | true =>
          rw [hz] at tree
          cases hB : subsB (walkS 5 [] s).2.1 with
          | false =>
            rw [hB] at tree
            exact tree.trans rfl
          | true =>
            have hq : (ByteArray.toList (bs (encL (walkS 5 [] s).2.1)) == ByteArray.toList s) = false := by
              refine beq_eq_false_iff_ne.2 fun e => ?_
              have : holds (isEnc s.data.toList) = true := jag ⟨(walkS 5 [] s).2.1, by
                have := congrArg (fun l => l) e
                rw [jft, ByteArray.toList_eq] at this
                exact this.symm, hB⟩
              rw [hne] at this
              cases this
            rw [hB, hq] at tree
            exact tree.trans rfl
  · cases h
theorem jo8 : jae Tryz.prog kbb5 := ⟨jfk, jjC, jsu, trivial⟩
theorem jeR (s : ByteArray) (xs : List ByteArray) : keyV2 s xs = if jaB s xs = true then bs (keyL s xs) else ⟨#[]⟩ := jcf _
theorem jdd {s : ByteArray} (h : nameB s = true) : s.size ≤ 8 := by
  unfold nameB at h
  rw [Bool.and_eq_true, Bool.and_eq_true, decide_eq_true_eq, decide_eq_true_eq] at h
  exact h.1.2
theorem jpP {s : ByteArray} {xs : List ByteArray} (h : jaB s xs = true) : (keyL s xs).length ≤ 300 := by
  obtain ⟨h1, h2⟩ := jbw h
  obtain ⟨h3, h4⟩ := jbo h2
  have h5 := jdX xs h4
  have h6 := jdd h1
  rw [jac] at h6
  unfold keyL
  rw [List.length_append, List.length_cons]
  omega
theorem jgK (s : ByteArray) (xs : List ByteArray) (h1 : s.size ≤ 1000000) (hx : shL xs) :
    brC (decide (ByteArray.size s ≤ 1000000) && isL (PV.sl (List.length xs) (List.map PV.str xs)))
      (brC (!jaB s (asL (PV.sl (List.length xs) (List.map PV.str xs))))
        (some ((IV.cv (CV.pv (PV.str { data := #[] })), ([] : List (List CV)))))
        (brC (decide (ByteArray.size s + 1 ≤ 9223372036854775807) && true)
          (brC (isL (PV.sl (List.length xs) (List.map PV.str xs)))
            (brC (decide (ByteArray.size (s ++ { data := #[1] }) + ByteArray.size (bs (putL (asL (PV.sl (List.length xs) (List.map PV.str xs))))) ≤ 9223372036854775807) && true)
              (some ((IV.cv (CV.pv (PV.str (s ++ { data := #[1] } ++ bs (putL (asL (PV.sl (List.length xs) (List.map PV.str xs))))))), [])))
              (none))
            (none))
          (none)))
      (none) = some (cS (keyV2 s xs), []) := by
  have e1 : isL (PV.sl xs.length (xs.map .str)) = true := jaq hx
  have e2 : asL (PV.sl xs.length (xs.map .str)) = xs := jal xs
  rw [jeR, e2, e1, dT h1]
  cases hB : jaB s xs with
  | true =>
    rw [if_pos rfl]
    have hp : putL xs = encL xs := by unfold putL; rw [if_pos (jbw hB).2]
    have e3 : s ++ { data := #[1] } ++ bs (encL xs) = bs (keyL s xs) := by
      conv => lhs; rw [← jaL s]
      rw [show ({ data := #[1] } : ByteArray) = bs [1] from rfl, jgd, jgd]
      unfold keyL
      rw [List.append_assoc]
      rfl
    have hk := jpP hB
    have l1 : (s ++ { data := #[1] }).size + (bs (encL xs)).size = (keyL s xs).length := by rw [← ByteArray.size_append, e3, ja5]
    rw [hp, l1, e3, dT (show s.size + 1 ≤ 9223372036854775807 by omega), dT (show (keyL s xs).length ≤ 9223372036854775807 by omega)]
    rfl
  | false =>
    rw [if_neg Bool.false_ne_true]
    rfl
theorem jm9 : jab Tryz.prog 89 E_KeyOf2 := jad mix jo8 (lp := []) (LO := LO0) ⟨Tryz.func89, by kernel_rfl, by kernel_rfl⟩ (by kernel_rfl) fun ivs res bxs h => by
  unfold E_KeyOf2 at h
  split at h
  · rename_i s p
    obtain ⟨hc, he⟩ := pick1 h
    cases he
    obtain ⟨k0, k1⟩ := andE hc
    obtain ⟨xs, rfl, hx⟩ := jam k1
    have ea : asL (pL xs) = xs := jal xs
    rw [ea]
    exact ⟨jap (by kernel_rfl), (jjK s xs).trans (jgK s xs (of_decide_eq_true k0) hx)⟩
  · cases h
theorem jmI : jab Tryz.prog 113 E_KeyOf2 := jad mix (tab := [(171, E_locationOk), (168, E_PutSubs)]) ⟨jcp, jgL, trivial⟩ (lp := []) (LO := LO0) ⟨Tryz.func113, by kernel_rfl, by kernel_rfl⟩ (by kernel_rfl) fun ivs res bxs h => by
  unfold E_KeyOf2 at h
  split at h
  · rename_i s p
    obtain ⟨hc, he⟩ := pick1 h
    cases he
    obtain ⟨k0, k1⟩ := andE hc
    obtain ⟨xs, rfl, hx⟩ := jam k1
    have ea : asL (pL xs) = xs := jal xs
    rw [ea]
    exact ⟨jap (by kernel_rfl), (jjx s xs).trans (jgK s xs (of_decide_eq_true k0) hx)⟩
  · cases h
theorem jjY : jab Tryz.prog 107 E_l03Subs2 := jfC mix (tab := []) trivial (lp := []) (LO := LO0) ⟨Tryz.func107, by kernel_rfl, by kernel_rfl⟩ (by kernel_rfl) fun ivs res bxs h => by
  unfold E_l03Subs2 at h
  split at h
  · rename_i p
    obtain ⟨hc, he⟩ := pick1 h
    cases he
    obtain ⟨xs, rfl, hx⟩ := jam hc
    have ea : asL (pL xs) = xs := jal xs
    have hl := hx.1
    rw [ea]
    have tree := jhd xs
    have e1 : Nat.beq (List.map PV.str xs).length (xs.length * 1) = true := by rw [List.length_map, Nat.mul_one]; exact Nat.beq_refl _
    rw [e1, dT (show 0 + xs.length ≤ 140737488351232 by omega), dT (show (0 + xs.length) * 16 ≤ 140737488355328 by omega), Nat.zero_add] at tree
    exact ⟨jap (by kernel_rfl), _, tree.trans rfl, rfl, rfl⟩
  · cases h
theorem jsO : jae Tryz.prog kbb6 := ⟨jjY, jo8⟩
noncomputable abbrev kpR (a : ByteArray) (m i : Nat) : Ex × LS := match kpF a m i with
  | some j => if holds (isEnc (a.data.toList.drop (j + 1))) = true ∧ jaB (bs (a.data.toList.take j)) (decL (a.data.toList.drop (j + 1))) = true
      then (.ret, [aS a, aS (bs (a.data.toList.take j)), aP (pL (decL (a.data.toList.drop (j + 1)))), aB true])
      else (.ret, [aS a, aS ⟨#[]⟩, aP .nils, aB false])
  | none => (.exit 0, [aS a, aX, aX, aX])
theorem jrX (a : ByteArray) (ha : a.size ≤ 2000) : ∀ (m i : Nat), m + i = 9 → 1 ≤ i → LoopsTo (rdB brC Tryz.prog kbb6 lp_kp LO_kp Tryz.f44 2 []) [aS a, aI i] (kpR a m i) := by
  have hla : a.size = a.data.toList.length := jac a
  intro m
  induction m with
  | zero =>
    intro i hm h1
    refine .done _ _ ((jof a i).trans ?_)
    rw [dF (show ¬ (i : Int) ≤ 8 by omega)]
    cases decide ((i : Int) < (a.size : Int)) <;> rfl
  | succ m ih =>
    intro i hm h1
    have tree := jof a i
    have w1 : IntKind.wrap .i64 ((i : Int) + 1) = ((i + 1 : Nat) : Int) := by rw [wrapI (by omega) (by omega)]; omega
    rw [w1] at tree
    unfold kpR kpF
    by_cases hi : i < a.size
    · rw [if_pos ⟨hi, by omega⟩]
      have hx0 : a.extract 0 i = bs (a.data.toList.take i) := by rw [jbq, List.drop_zero, Nat.sub_zero]
      have hx1 : a.extract (i + 1) a.size = bs (a.data.toList.drop (i + 1)) := by rw [jbq, List.take_of_length_le (by rw [List.length_drop]; omega)]
      have z0 : (bs (a.data.toList.take i)).size ≤ 1000000 := by rw [ja5, List.length_take]; omega
      have z1 : (bs (a.data.toList.drop (i + 1))).size ≤ 2000 := by rw [ja5, List.length_drop]; omega
      simp (disch := omega) only [dT, Int.toNat_natCast, hx0, hx1, jaF, Bool.and_true, Bool.true_and] at tree
      by_cases c1 : a.data.toList.getD i 0 = 1
      · rw [if_pos c1]
        dsimp only
        rw [c1, show (((((1 : UInt8).toNat : Nat) : Int)) != (1 : Int)) = false from rfl] at tree
        by_cases hE : isEnc (a.data.toList.drop (i + 1))
        · rw [jag hE] at tree ⊢
          obtain ⟨xs, hx, hB⟩ := hE
          obtain ⟨hx4, hx24⟩ := jbo hB
          have hsh : shL xs := ⟨by omega, fun z hz => by have := hx24 z hz; omega⟩
          have e1 := jaq hsh
          rw [hx, jda] at tree ⊢
          simp only [isL, e1, jal] at tree
          cases hp : jaB (bs (a.data.toList.take i)) xs with
          | true =>
            rw [hp] at tree
            rw [if_pos ⟨rfl, rfl⟩]
            exact .done _ _ tree
          | false =>
            rw [hp] at tree
            rw [if_neg (fun h => Bool.false_ne_true h.2)]
            exact .done _ _ tree
        · have hf : holds (isEnc (a.data.toList.drop (i + 1))) = false := @decide_eq_false _ (Classical.propDecidable _) hE
          rw [hf] at tree ⊢
          rw [if_neg (fun h => Bool.false_ne_true h.1)]
          exact .done _ _ tree
      · rw [if_neg c1]
        rw [show ((((a.data.toList.getD i 0).toNat : Nat) : Int) != (1 : Int)) = true from bne_iff_ne.2 fun h => c1 (UInt8.toNat_inj.1 (by show _ = 1; omega))] at tree
        have := ih (i + 1) (by omega) (by omega)
        exact .step _ _ _ tree this
    · rw [if_neg (fun h => hi h.1)]
      rw [dF (by omega)] at tree
      exact .done _ _ tree
theorem jhj (a : ByteArray) : ∀ (m i j : Nat), kpF a m i = some j → i ≤ j ∧ j < a.size ∧ a.data.toList.getD j 0 = 1 ∧ ∀ k, i ≤ k → k < j → a.data.toList.getD k 0 ≠ 1
  | 0, i, j, h => by cases h
  | m + 1, i, j, h => by
    unfold kpF at h
    split at h
    · rename_i hi
      split at h
      · rename_i h1
        cases h
        exact ⟨Nat.le_refl _, hi.1, h1, fun k h1 h2 => by omega⟩
      · rename_i h1
        obtain ⟨g1, g2, g3, g4⟩ := jhj a m (i + 1) j h
        exact ⟨by omega, g2, g3, fun k hk1 hk2 => by
          rcases Nat.eq_or_lt_of_le hk1 with rfl | hk
          · exact h1
          · exact g4 k hk hk2⟩
    · cases h
theorem jlb (a : ByteArray) : ∀ (m i : Nat), kpF a m i = none → ∀ k, i ≤ k → k < i + m → k < a.size → k ≤ 8 → a.data.toList.getD k 0 ≠ 1
  | 0, i, h, k, h1, h2, _, _ => by omega
  | m + 1, i, h, k, h1, h2, h3, h4 => by
    unfold kpF at h
    rw [if_pos ⟨by omega, by omega⟩] at h
    split at h
    · cases h
    · rename_i hne
      rcases Nat.eq_or_lt_of_le h1 with rfl | hk
      · exact hne
      · exact jlb a m (i + 1) h k hk (by omega) h3 h4
theorem ky_kp {a s : ByteArray} {xs : List ByteArray} (h : a.data.toList = keyL s xs) (hp : jaB s xs = true) : kpF a 8 1 = some s.size ∧ a.data.toList.take s.size = s.data.toList ∧ a.data.toList.drop (s.size + 1) = encL xs := by
  obtain ⟨n1, n2⟩ := jbw hp
  have hbig := jiA n1
  have hle := jdd n1
  have hsl : s.size = s.data.toList.length := jac s
  have h0 : 1 ≤ s.size := by
    unfold nameB at n1
    rw [Bool.and_eq_true, Bool.and_eq_true, decide_eq_true_eq, decide_eq_true_eq] at n1
    omega
  have hat : a.data.toList.getD s.size 0 = 1 := by
    rw [h, hsl, List.getD_eq_getElem?_getD]
    unfold keyL
    rw [List.getElem?_append_right (Nat.le_refl _), Nat.sub_self]
    rfl
  have hlt : ∀ k, k < s.size → a.data.toList.getD k 0 ≠ 1 := fun k hk => by
    rw [h, List.getD_eq_getElem?_getD]
    unfold keyL
    rw [List.getElem?_append_left (by omega), List.getElem?_eq_getElem (by omega)]
    exact jrF (hbig _ (List.getElem_mem _))
  have hsz : s.size < a.size := by
    rw [jac a, h]
    unfold keyL
    rw [List.length_append, List.length_cons]
    omega
  refine ⟨?_, ?_, ?_⟩
  · cases hk : kpF a 8 1 with
    | none => exact absurd hat (jlb a 8 1 hk s.size h0 (by omega) hsz hle)
    | some j =>
      obtain ⟨g1, g2, g3, g4⟩ := jhj a 8 1 j hk
      rcases Nat.lt_trichotomy j s.size with h | h | h
      · exact absurd g3 (hlt j h)
      · rw [h]
      · exact absurd hat (g4 s.size h0 h)
  · rw [h, hsl]
    unfold keyL
    rw [List.take_left]
  · rw [h, hsl]
    unfold keyL
    rw [show s.data.toList ++ 1 :: encL xs = (s.data.toList ++ [1]) ++ encL xs by simp, show s.data.toList.length + 1 = (s.data.toList ++ [1]).length by simp, List.drop_left]
theorem kp_ky {a : ByteArray} {j : Nat} (hk : kpF a 8 1 = some j) {xs : List ByteArray} (hx : a.data.toList.drop (j + 1) = encL xs) (hp : jaB (bs (a.data.toList.take j)) xs = true) : isKy a := by
  obtain ⟨g1, g2, g3, g4⟩ := jhj a 8 1 j hk
  have hla : a.size = a.data.toList.length := jac a
  refine ⟨(bs (a.data.toList.take j), xs), ?_, hp⟩
  have hg : a.data.toList[j]'(by omega) = 1 := by
    rw [List.getD_eq_getElem?_getD, List.getElem?_eq_getElem (by omega)] at g3
    exact g3
  unfold keyL
  dsimp only
  rw [jaF, ← hx, ← hg, ← List.drop_eq_getElem_cons (by omega), List.take_append_drop]
theorem jnb : jab Tryz.prog 44 E_SKeyPl := jad mix jsO (lp := lp_kp) (LO := LO_kp) ⟨Tryz.func44, by kernel_rfl, by kernel_rfl⟩ (by kernel_rfl) fun ivs res bxs h => by
  unfold E_SKeyPl at h
  split at h
  · rename_i a
    refine ⟨jaw 2 (by kernel_rfl) (by kernel_rfl) (by kernel_rfl) ?_, (jso a).trans ?_⟩
    · intro ls e ls' hl
      replace hl : pickA (jki ls) = some (e, ls') := hl
      unfold jki at hl
      split at hl
      · rename_i a i
        have key : decide (a.size ≤ 2000) = true → (i == 1) = true → LoopsTo (rdB brC Tryz.prog kbb6 lp_kp LO_kp Tryz.f44 2 []) [aS a, aI i] (kpR a 8 1) := fun h1 h2 => by
          rw [eq_of_beq h2]
          exact jrX a (of_decide_eq_true h1) 8 1 rfl (Nat.le_refl _)
        rcases jlU hl with ⟨hc, he⟩ | ⟨hn, hc, he⟩ | ⟨hn, hn2, hc, he⟩
        · cases he
          obtain ⟨hc, g2⟩ := andE hc
          obtain ⟨g0, g1⟩ := andE hc
          have k := key g0 g1
          obtain ⟨⟨s, xs⟩, h3, h4⟩ := jak g2
          obtain ⟨y1, y2, y3⟩ := ky_kp h3 h4
          unfold kpR at k
          rw [y1] at k
          dsimp only at k
          rw [y2, y3, jda, jaL, if_pos ⟨jag ⟨xs, rfl, (jbw h4).2⟩, h4⟩] at k
          rw [jhs h3 h4]
          exact k
        · cases he
          obtain ⟨hc, g2⟩ := andE hc
          obtain ⟨g0, g1⟩ := andE hc
          have k := key g0 g1
          obtain ⟨j, hj⟩ := Option.isSome_iff_exists.1 g2
          have hnk : ¬ isKy a := fun hk => by rw [g0, g1, jag hk] at hn; cases hn
          unfold kpR at k
          rw [hj] at k
          dsimp only at k
          rw [if_neg (fun hh => by
            obtain ⟨xs, hx, hB⟩ := jak hh.1
            have h2 := hh.2
            rw [hx, jda] at h2
            exact hnk (kp_ky hj hx h2))] at k
          exact k
        · cases he
          obtain ⟨g0, g1⟩ := andE hc
          have k := key g0 g1
          have hj : kpF a 8 1 = none := by
            cases hj : kpF a 8 1 with
            | none => rfl
            | some j => rw [g0, g1, hj] at hn2; cases hn2
          unfold kpR at k
          rw [hj] at k
          exact k
      · cases hl
    · rcases pick2 h with ⟨hc, he⟩ | ⟨hn, hc, he⟩
      · cases he
        obtain ⟨k0, k1⟩ := andE hc
        rw [k0, k1]
        rfl
      · cases he
        rw [hc] at hn ⊢
        rw [Bool.true_and] at hn
        rw [hn]
        cases (kpF a 8 1).isSome <;> rfl
  · cases h
end
section
open Go.RowKit
abbrev jeN : List (Nat × List Nat × List Nat) := [(2, [0, 1, 7, 8], [4])]
def E_longL1 : Entry := fun ivs => match ivs with | [.cv (.pv (.str s))] => [(true, cB (decide ((s.size : Int) > 64)), [])] | _ => []
noncomputable def jqM (br : Br) (s : ByteArray) := evB br Tryz.prog [] [] LO0 Tryz.f222 [cS s]
noncomputable def lgb2 : List (FuncId × Entry) := [(222, E_longL1)]
def frstL (xs : List ByteArray) : Nat := idxV (fun x => decide ((x.size : Int) > 64)) xs
noncomputable def jd2 : LoopT := fun _ ls => match ls with
  | [(.pv p, none), (.pv (.clo f []), none), (.pv (.int .i64 n), none), (.pv (.int .i64 i), none)] =>
    [(isL p && Nat.beq f 222 && (n == ((asL p).length : Int)) && (i == 0) && decide (frstL (asL p) < (asL p).length), .ret, [aI (frstL (asL p))]),
     (isL p && Nat.beq f 222 && (n == ((asL p).length : Int)) && (i == 0), .exit 0, [aX])]
  | _ => []
noncomputable def jss (br : Br) (xs : List ByteArray) (i : Int) := rdB br Tryz.prog lgb2 jeN jd2 Tryz.f253 2 [] [aP (pL xs), aP (.clo 222 []), aI xs.length, aI i]
noncomputable def jth (br : Br) (xs : List ByteArray) := evB br Tryz.prog lgb2 jeN jd2 Tryz.f253 [cP (pL xs), cP (.clo 222 [])]
noncomputable def E_IdxFL : Entry := fun ivs => match ivs with
  | [.cv (.pv p), .cv (.pv (.clo f []))] => [(isL p && Nat.beq f 222, cI (if frstL (asL p) < (asL p).length then frstL (asL p) else -1), [])]
  | _ => []
noncomputable def lgb3 : List (FuncId × Entry) := (253, E_IdxFL) :: lgb2
noncomputable def jq6 (br : Br) (xs : List ByteArray) := evB br Tryz.prog lgb3 [] LO0 Tryz.f217 [cP (pL xs), cP (.clo 222 [])]
noncomputable def E_ContFL : Entry := fun ivs => match ivs with
  | [.cv (.pv p), .cv (.pv (.clo f []))] => [(isL p && Nat.beq f 222, cB (decide (frstL (asL p) < (asL p).length)), [])]
  | _ => []
noncomputable def lgb4 : List (FuncId × Entry) := (217, E_ContFL) :: lgb3
noncomputable def jsl (br : Br) (xs : List ByteArray) := evB br Tryz.prog lgb4 [] LO0 Tryz.f174 [cP (pL xs)]
noncomputable def E_longL : Entry := fun ivs => match ivs with | [.cv (.pv p)] => [(isL p, cB (decide (frstL (asL p) < (asL p).length)), [])] | _ => []
end
section
theorem jmA (xs : List ByteArray) : jsl brC xs =
 brC (isL (PV.sl (List.length xs) (List.map PV.str xs)) && Nat.beq 222 222)
 (some ((.cv (.pv (.bool (decide (frstL (asL (PV.sl (List.length xs) (List.map PV.str xs))) < List.length (asL (PV.sl (List.length xs) (List.map PV.str xs))))))), [])))
 none := by kernel_rfl
theorem jmW (xs : List ByteArray) : jth brC xs =
 brC (isL (pL xs) && Nat.beq 222 222 && (↑(List.length xs) : Int) == (↑(List.length (asL (pL xs))) : Int) && 0 == 0 && decide (frstL (asL (pL xs)) < List.length (asL (pL xs))))
 (some ((.cv (.pv (.int .i64 (↑(frstL (asL (pL xs))) : Int))), [])))
 (brC (isL (pL xs) && Nat.beq 222 222 && (↑(List.length xs) : Int) == (↑(List.length (asL (pL xs))) : Int) && 0 == 0)
 (some ((.cv (.pv (.int .i64 (Int.negSucc 0))), [])))
 none) := by kernel_rfl
theorem jgI (xs : List ByteArray) (i : Int) : jss brC xs i =
 brC (decide (i < (↑(List.length xs) : Int)))
 (brC (decide (0 ≤ i) && decide (i < (↑(List.length xs) : Int)))
 (brC (Nat.blt 0 (List.length (List.drop (Int.toNat i * 1) (List.map PV.str xs))) && PV.isStr (List.headD (List.drop (Int.toNat i * 1) (List.map PV.str xs)) PV.nilp) && true)
 (brC (decide ((↑(ByteArray.size (PV.asStr (List.headD (List.drop (Int.toNat i * 1) (List.map PV.str xs)) PV.nilp))) : Int) > 64))
 (some (.inr (.ret, [(.pv (.int .i64 i), none)])))
 (some (.inl [(.pv (.sl (List.length xs) (List.map PV.str xs)), none), (.pv (PV.clo 222 []), none), (.pv (.int .i64 (↑(List.length xs) : Int)), none), (.pv (.int .i64 (IntKind.wrap .i64 (i + 1))), none)])))
 none)
 none)
 (some (.inr (.exit 0, [(.bad, none)]))) := by kernel_rfl
theorem jjX (xs : List ByteArray) : jq6 brC xs =
 brC (isL (PV.sl (List.length xs) (List.map PV.str xs)) && Nat.beq 222 222)
 (some ((.cv (.pv (.bool (decide ((if frstL (asL (PV.sl (List.length xs) (List.map PV.str xs))) < List.length (asL (PV.sl (List.length xs) (List.map PV.str xs))) then (↑(frstL (asL (PV.sl (List.length xs) (List.map PV.str xs)))) : Int) else -1) ≥ 0)))), [])))
 none := by kernel_rfl
theorem jjz (s : ByteArray) : jqM brC s =
 some ((.cv (.pv (.bool (decide ((↑(ByteArray.size s) : Int) > 64)))), [])) := by kernel_rfl
end
section
open Go.RowKit
theorem joX : jab Tryz.prog 222 E_longL1 := jad mix (tab := []) trivial (lp := []) (LO := LO0) ⟨Tryz.func222, by kernel_rfl, by kernel_rfl⟩ (by kernel_rfl) fun ivs res bxs h => by
  unfold E_longL1 at h
  split at h
  · rename_i s
    cases h
    exact ⟨jap (by kernel_rfl), jjz s⟩
  · cases h
theorem jns : jae Tryz.prog lgb2 := ⟨joX, trivial⟩
theorem jlZ (xs : List ByteArray) (hx : shL xs) : ∀ (m i : Nat), m + i = xs.length → LoopsTo (rdB brC Tryz.prog lgb2 jeN jd2 Tryz.f253 2 []) [aP (pL xs), aP (.clo 222 []), aI xs.length, aI i]
    (if frstL (xs.drop i) + i < xs.length then (.ret, [aI ((frstL (xs.drop i) + i : Nat) : Int)]) else (.exit 0, [aX])) := by
  have hl := hx.1
  intro m
  induction m with
  | zero =>
    intro i hm
    obtain rfl : i = xs.length := by omega
    rw [List.drop_length, show frstL [] = 0 from rfl, if_neg (by omega)]
    refine .done _ _ ((jgI xs xs.length).trans ?_)
    rw [dF (by omega)]
    rfl
  | succ m ih =>
    intro i hm
    have hi : i < xs.length := by omega
    have ih' := ih (i + 1) (by omega)
    have tree := jgI xs i
    simp (disch := omega) only [show decide ((i : Int) < (xs.length : Int)) = true from dT (by omega), show decide (0 ≤ (i : Int)) = true from dT (by omega), Int.toNat_natCast, jaJ xs i hi, List.length_cons, List.headD_cons, PV.isStr, PV.asStr, blt0, wrap1, Bool.and_true, Bool.true_and] at tree
    rw [List.drop_eq_getElem_cons hi]
    cases hin : decide ((xs[i].size : Int) > 64) with
    | true =>
      rw [hin] at tree
      rw [show frstL (xs[i] :: xs.drop (i + 1)) = 0 from jnw (p := fun x : ByteArray => decide ((x.size : Int) > 64)) hin, Nat.zero_add, if_pos hi]
      exact .done _ _ tree
    | false =>
      rw [hin] at tree
      rw [show frstL (xs[i] :: xs.drop (i + 1)) = frstL (xs.drop (i + 1)) + 1 from jlm (p := fun x : ByteArray => decide ((x.size : Int) > 64)) hin]
      have e : frstL (xs.drop (i + 1)) + (i + 1) = frstL (xs.drop (i + 1)) + 1 + i := by omega
      rw [e] at ih'
      exact .step _ _ _ tree ih'
theorem jpZ : jab Tryz.prog 253 E_IdxFL := jad mix jns (lp := jeN) (LO := jd2) ⟨Tryz.func253, by kernel_rfl, by kernel_rfl⟩ (by kernel_rfl) fun ivs res bxs h => by
  unfold E_IdxFL at h
  split at h
  · rename_i p f
    obtain ⟨hc, he⟩ := pick1 h
    cases he
    rw [Bool.and_eq_true] at hc
    obtain ⟨xs, rfl, hx⟩ := jam hc.1
    obtain rfl := nqB hc.2
    refine ⟨jaw 2 (by kernel_rfl) (by kernel_rfl) (by kernel_rfl) ?_, (jmW xs).trans ?_⟩
    · intro ls e ls' hl
      unfold jd2 at hl
      split at hl
      · rename_i p f n i
        cases hg : (isL p && Nat.beq f 222 && (n == ((asL p).length : Int)) && (i == 0)) with
        | false => rw [hg] at hl; simp only [pickA, Bool.false_and, cond_false] at hl; cases hl
        | true =>
          rw [hg, Bool.true_and] at hl
          simp only [Bool.and_eq_true, beq_iff_eq] at hg
          obtain ⟨⟨⟨g1, g3⟩, g4⟩, g5⟩ := hg
          obtain ⟨ys, rfl, hy⟩ := jam g1
          simp only [jal] at hl g4
          rw [nqB g3, g4, g5]
          have := jlZ ys hy ys.length 0 (by omega)
          rw [List.drop_zero, Nat.add_zero] at this
          by_cases hlt : frstL ys < ys.length
          · rw [dT hlt] at hl
            rw [if_pos hlt] at this
            cases hl
            exact this
          · rw [dF hlt] at hl
            rw [if_neg hlt] at this
            cases hl
            exact this
      · cases hl
    · have e4 : asL (pL xs) = xs := jal xs
      rw [e4]
      simp only [jaq hx, jal, isL, beq_self_eq_true, Bool.and_true, Bool.true_and, Nat.beq_refl]
      by_cases hlt : frstL xs < xs.length
      · rw [dT hlt, if_pos hlt]
        rfl
      · rw [dF hlt, if_neg hlt]
        rfl
  · cases h
theorem jpV : jae Tryz.prog lgb3 := ⟨jpZ, jns⟩
theorem jnv : jab Tryz.prog 217 E_ContFL := jad mix jpV (lp := []) (LO := LO0) ⟨Tryz.func217, by kernel_rfl, by kernel_rfl⟩ (by kernel_rfl) fun ivs res bxs h => by
  unfold E_ContFL at h
  split at h
  · rename_i p f
    obtain ⟨hc, he⟩ := pick1 h
    cases he
    rw [Bool.and_eq_true] at hc
    obtain ⟨xs, rfl, hx⟩ := jam hc.1
    obtain rfl := nqB hc.2
    refine ⟨jap (by kernel_rfl), (jjX xs).trans ?_⟩
    have e4 : asL (pL xs) = xs := jal xs
    rw [e4]
    simp only [jaq hx, jal, isL, jtX]
    rfl
  · cases h
theorem jsg : jae Tryz.prog lgb4 := ⟨jnv, jpV⟩
theorem jqH : jab Tryz.prog 174 E_longL := jad mix jsg (lp := []) (LO := LO0) ⟨Tryz.func174, by kernel_rfl, by kernel_rfl⟩ (by kernel_rfl) fun ivs res bxs h => by
  unfold E_longL at h
  split at h
  · rename_i p
    obtain ⟨hc, he⟩ := pick1 h
    cases he
    obtain ⟨xs, rfl, hx⟩ := jam hc
    refine ⟨jap (by kernel_rfl), (jmA xs).trans ?_⟩
    have e4 : asL (pL xs) = xs := jal xs
    rw [e4]
    simp only [jaq hx, jal, isL]
    rfl
  · cases h
end
section
open Go.RowKit
theorem jq2 {b t T : Nat} {v : Value} (h : locS noL (b, t) (4 * T + 3) = some v) : t = T ∧ v = .pointer none := by
  unfold locS at h
  rw [show (4 * T + 3) % 2 = 1 by omega, show (4 * T + 3) / 4 = T by omega, show (4 * T + 3) % 4 = 3 by omega] at h
  cases hb : Nat.beq T t with
  | false => rw [show Nat.beq 1 0 = false from rfl, hb] at h; cases h
  | true => rw [show Nat.beq 1 0 = false from rfl, hb] at h; cases h; exact ⟨(nqB hb).symm, rfl⟩
theorem jqZ {b t T : Nat} {v : Value} (h : locS noL (b, t) (4 * T + 1) = some v) : t = T ∧ v = .pointer (some ⟨b, 0, none⟩) := by
  unfold locS at h
  rw [show (4 * T + 1) % 2 = 1 by omega, show (4 * T + 1) / 4 = T by omega, show (4 * T + 1) % 4 = 1 by omega] at h
  cases hb : Nat.beq T t with
  | false => rw [show Nat.beq 1 0 = false from rfl, hb] at h; cases h
  | true => rw [show Nat.beq 1 0 = false from rfl, hb] at h; cases h; exact ⟨(nqB hb).symm, rfl⟩
theorem joN (loc : Nat → Option Value) (b T : Nat) : locS loc (b, T) (4 * T + 1) = some (.pointer (some ⟨b, 0, none⟩)) := by
  unfold locS
  rw [show (4 * T + 1) % 2 = 1 by omega, show (4 * T + 1) / 4 = T by omega, show (4 * T + 1) % 4 = 1 by omega, show Nat.beq T T = true from Nat.beq_refl T]
  rfl
theorem jlz : (Tryz.prog.info? 118).map (·.size) = some 2 := by kernel_rfl
theorem jqP : liesAt Tryz.prog Tryz.prog.depth 118 (2 / Tryz.prog.cellsOf 118) 0 118 1 = true := by kernel_rfl
set_option maxHeartbeats 1000000 in
set_option maxRecDepth 100000 in
theorem jgr (b : Nat) (w : World) (h0 : w.cell? ⟨b, 0, none⟩ = some (.pointer (some ⟨b, 0, none⟩))) :
    Calls Tryz.prog 143 #[.pointer (some ⟨b, 0, none⟩)] w fun e w' => e = .returned (.tuple #[]) ∧ w' = w := by
  obtain ⟨j, hj, _⟩ := Option.map_eq_some_iff.1 jlz
  go_enter Tryz.func143, Tryz.ntmps143
  go_wp2
  rw [Lib.run_neq_ptr_same w _ Tryz.underlying116 hj]
  go_wp2
  go_end0
  exact ⟨rfl, rfl⟩
set_option maxHeartbeats 1000000 in
set_option maxRecDepth 100000 in
theorem jfN (b : Nat) (w : World) (h0 : w.cell? ⟨b, 0, none⟩ = some (.pointer none)) (hsh : w.shape? b = some (118, 2)) (hfz : w.frozen? ⟨b, 0, none⟩ = false) :
    Calls Tryz.prog 143 #[.pointer (some ⟨b, 0, none⟩)] w fun e w' => e = .returned (.tuple #[]) ∧ w' = w.setCell ⟨b, 0, none⟩ (.pointer (some ⟨b, 0, none⟩)) := by
  obtain ⟨j, hj, hjs⟩ := Option.map_eq_some_iff.1 jlz
  go_enter Tryz.func143, Tryz.ntmps143
  go_wp2
  rw [Lib.run_to_unsafe w ⟨b, 0, none⟩ Tryz.underlying116 Tryz.underlying213 hj (by rw [hjs]; decide) hsh (Nat.zero_lt_succ 1)]
  simp only [Result.andThen]
  rw [Oper.upon_value]
  go_wp2
  rw [run_callFunc_extern Tryz.func198 (by kernel_rfl) (by kernel_rfl) (by kernel_rfl) (e := Extern.AbiNoEscape.same) (by kernel_rfl)]
  rw [Lib.run_noEscape]
  simp only [Result.andThen]
  rw [Oper.upon_value]
  go_wp2
  rw [Lib.run_from_unsafe w ⟨b, 0, none⟩ Tryz.underlying213 Tryz.underlying116 hj hsh jqP]
  simp only [Result.andThen]
  rw [Oper.upon_value]
  go_wp2
  go_end0
  exact ⟨rfl, rfl⟩
abbrev bldT : Nat := 118
noncomputable def E_copyCheck : Entry := fun ivs => match ivs with
  | [.box 0 [.al a, c]] => [(Nat.beq a (4 * bldT + 3) || Nat.beq a (4 * bldT + 1), .tup [], [[.al (4 * bldT + 1), c]])]
  | _ => []
theorem jrs {w : World} {com : Nat → Nat} {loc : Nat → Option Value} {cur : List Value} {c1 c2 : CV} {bs : List Nat} (h : CReps w com loc cur [c1, c2] bs) :
    ∃ v1 v2 b1 b2, cur = [v1, v2] ∧ bs = b1 ++ b2 ∧ CRep w com loc v1 c1 b1 ∧ CRep w com loc v2 c2 b2 ∧ v1.oneCell' = true ∧ v2.oneCell' = true := by
  cases h with
  | @cons v1 _ b1 _ _ _ h1 o1 k =>
    cases k with
    | @cons v2 _ b2 _ _ _ h2 o2 k2 =>
      cases k2
      exact ⟨v1, v2, b1, b2, rfl, by rw [List.append_nil], h1, h2, o1, o2⟩
theorem jry {w : World} {com : Nat → Nat} {loc : Nat → Option Value} {v : Value} {d : Nat} {bs : List Nat} (h : CRep w com loc v (.al d) bs) : loc d = some v ∧ bs = [] := by
  cases h with
  | al d h => exact ⟨h, rfl⟩
theorem jdJ {P : Program} {g : FuncId} {c1 c2 c1' c2' : CV} {res : IV} (h : ∀ (w : World) (com : Nat → Nat) (b t : Nat) (v1 v2 : Value) (b1 b2 : List Nat), w.heap[b]? = some (.cells #[v1, v2] t (0, 0)) → com b = 0 → CRep w com (locS noL (b, t)) v1 c1 b1 → CRep w com (locS noL (b, t)) v2 c2 b2 → v1.oneCell' = true → v2.oneCell' = true → (b :: (b1 ++ b2)).Nodup → (∀ b, w.heap.size ≤ b → com b = 0) →
    Calls P g #[.pointer (some ⟨b, 0, none⟩)] w fun e w' => ∃ v com' v1' v2' b1' b2', e = .returned v ∧ Ext w com w' com' ∧ Fr w.heap.size (fun x => x ∈ b :: (b1 ++ b2)) w w' ∧ (∀ b, w'.heap.size ≤ b → com' b = 0) ∧ (∀ x, x < w.heap.size → x ∉ b :: (b1 ++ b2) → com' x = com x) ∧
      RRep w' com' v res [] ∧ w'.heap[b]? = some (.cells #[v1', v2'] t (0, 0)) ∧ com' b = 0 ∧ CRep w' com' (locS noL (b, t)) v1' c1' b1' ∧ CRep w' com' (locS noL (b, t)) v2' c2' b2' ∧ v1'.oneCell' = true ∧ v2'.oneCell' = true ∧ (b :: (b1' ++ b2')).Nodup ∧ ∀ x ∈ b1' ++ b2', x ∈ b1 ++ b2 ∨ w.heap.size ≤ x) :
    jaG P g [.box 0 [c1, c2]] res [[c1', c2']] := by
  intro w com vals bs hI hnd hfresh hgl
  cases hI with
  | cons h1 h2 =>
    cases h2
    cases h1 with
    | box b o cur t l bs hb hc hC =>
      obtain ⟨v1, v2, b1, b2, rfl, rfl, r1, r2, o1, o2⟩ := jrs hC
      rw [List.append_nil] at hnd
      refine (h w com b t v1 v2 b1 b2 hb hc r1 r2 o1 o2 hnd hfresh).mono ?_
      rintro e w' ⟨v, com', v1', v2', b1', b2', rfl, hx, hf, hfr, hk, hr, hb', hc', r1', r2', o1', o2', hnd', hwas⟩
      refine ⟨v, com', [], b :: (b1' ++ b2') ++ [], rfl, hx, by simpa using hf, hfr, by simpa using hk, hr, .box b 0 [v1', v2'] t _ _ (b1' ++ b2') [] [] [] [] hb' hc' ?_ .nil, by simpa using hnd', fun x hx' => ?_⟩
      · have := CReps.cons r1' o1' (CReps.cons r2' o2' (CReps.nil (w := w') (com := com') (loc := locS noL (b, t))))
        simpa using this
      · simp only [List.nil_append, List.append_nil, List.mem_cons] at hx' ⊢
        rcases hx' with rfl | hx'
        · exact .inl (.inl rfl)
        · exact (hwas x hx').imp .inr id
theorem jjc : jab Tryz.prog 143 E_copyCheck := ⟨⟨_, Tryz.func143, by kernel_rfl, by kernel_rfl⟩, fun ivs res bxs h => by
  unfold E_copyCheck at h
  split at h
  · rename_i a c
    obtain ⟨hc, he⟩ := pick1 h
    cases he
    rw [Bool.or_eq_true] at hc
    refine jdJ fun w com b t v1 v2 b1 b2 hb hcb r1 r2 o1 o2 hnd hfresh => ?_
    obtain ⟨hd, rfl⟩ := jry r1
    rw [List.nil_append] at hnd ⊢
    have hlt : b < w.heap.size := (Array.getElem?_eq_some_iff.1 hb).1
    have hfz : w.frozen? ⟨b, 0, none⟩ = false := by
      unfold World.frozen?
      rw [hb]
      rfl
    have h0 : w.cell? ⟨b, 0, none⟩ = some v1 := by rw [cell_of_row w b 0 _ t (0, 0) hb]; rfl
    rcases hc with hc | hc
    · obtain rfl := nqB hc
      obtain ⟨rfl, rfl⟩ := jq2 hd
      refine (jfN b w h0 (by unfold World.shape?; rw [hb]; rfl) hfz).mono ?_
      rintro e w' ⟨rfl, rfl⟩
      rw [setCell_eq_setRow w b 0 _ _ _ _ hb]
      have hrow := setRow_heap w b _ (#[Value.pointer none, v2].setIfInBounds 0 (.pointer (some ⟨b, 0, none⟩))) _ _ hb
      have hother : ∀ x, x ≠ b → (w.setRow b (#[Value.pointer none, v2].setIfInBounds 0 (.pointer (some ⟨b, 0, none⟩)))).heap[x]? = w.heap[x]? := fun x hx => setRow_other w b x _ hx
      have hx : Ext w com (w.setRow b (#[Value.pointer none, v2].setIfInBounds 0 (.pointer (some ⟨b, 0, none⟩)))) com := ⟨fun _ => Nat.le_refl _, fun x i hi => by
        have : x ≠ b := fun e => by rw [e, hcb] at hi; cases hi
        unfold World.cell?
        rw [hother x this]⟩
      refine ⟨_, com, .pointer (some ⟨b, 0, none⟩), v2, [], b2, rfl, hx, ⟨rfl, rfl, rfl, by simp [World.setRow], fun x hx' hn => hother x fun e => hn (by rw [e]; simp)⟩, fun x hx' => hfresh x (by simpa [World.setRow] using hx'), fun _ _ _ => rfl, .tup [] [] [] .nil, hrow, hcb, .al _ _ (joN _ _ _), ?_, rfl, o2, by simpa using hnd, fun x hx' => .inl hx'⟩
      exact r2.keep hx (fun _ _ h => h) fun x hx' => ⟨hother x fun e => (List.nodup_cons.1 hnd).1 (e ▸ hx'), rfl⟩
    · obtain rfl := nqB hc
      obtain ⟨rfl, rfl⟩ := jqZ hd
      refine (jgr b w h0).mono ?_
      rintro e w' ⟨rfl, rfl⟩
      exact ⟨_, com, _, v2, [], b2, rfl, Ext.refl _ _, Fr.refl _ _ _, hfresh, fun _ _ _ => rfl, .tup [] [] [] .nil, hb, hcb, .al _ _ (joN _ _ _), r2, o1, o2, by simpa using hnd, fun x hx' => .inl hx'⟩
  · cases h⟩
abbrev pBy (s : ByteArray) : PV := .sl s.size (jaj s)
theorem joJ {a b : UInt8} (h : byteP a = byteP b) : a = b := by
  unfold byteP at h
  injection h with _ h
  exact UInt8.toNat_inj.1 (Int.ofNat.inj h)
theorem jeB : ∀ {xs ys : List UInt8}, xs.map byteP = ys.map byteP → xs = ys
  | [], [], _ => rfl
  | [], _ :: _, h => by cases h
  | _ :: _, [], h => by cases h
  | x :: xs, y :: ys, h => by
    rw [List.map_cons, List.map_cons] at h
    injection h with h1 h2
    rw [joJ h1, jeB h2]
theorem jr8 (a b : ByteArray) (h : pBy a = pBy b) : a = b := by
  injection h with _ h
  have := jeB h
  cases a
  cases b
  congr 1
  exact Array.toList_inj.1 this
def shBy (s : ByteArray) : Prop := s.size ≤ 100000000
noncomputable abbrev isBy (p : PV) : Bool := isE pBy shBy p
noncomputable abbrev asBy (p : PV) : ByteArray := asE pBy p
theorem jhe {s : ByteArray} (h : shBy s) : isE pBy shBy (PV.sl s.size (jaj s)) = true := jkV (enc := pBy) h
theorem jcK (s : ByteArray) : asE pBy (PV.sl s.size (jaj s)) = s := jiJ jr8 s
theorem jbK (s : ByteArray) : (jaj s).length = s.size := by unfold jaj; rw [List.length_map]; rfl
theorem jca (s t : ByteArray) : jaj s ++ jaj t = jaj (s ++ t) := by
  unfold jaj
  rw [← List.map_append]
  congr 1
noncomputable abbrev bldB (s : ByteArray) : List CV := [.al (4 * bldT + 1), .lst 1 5 s.size (jaj s) false]
abbrev bld0 : List CV := [.al (4 * bldT + 3), .pv .nils]
noncomputable def E_bldString : Entry := fun ivs => match ivs with
  | [.box 0 [.al a, .lst 1 e n l false]] => [(Nat.beq e 5 && isBy (.sl n l) && Nat.ble 1 n, cS (asBy (.sl n l)), [[.bad, .bad]])]
  | _ => []
theorem jdm {w : World} {com : Nat → Nat} : ∀ {l : List UInt8} {xs : List Value}, PReps w com xs (l.map byteP) → xs = Lib.byteCells l
  | [], xs, h => h.of_nil
  | c :: l, xs, h => by
    obtain ⟨v, vs, rfl, hv, hvs⟩ := h.of_cons
    have e : v = .int .u8 (c.toNat : Int) := by
      unfold byteP at hv
      cases hv
      rfl
    rw [e, jdm hvs]
    rfl
set_option maxHeartbeats 1000000 in
set_option maxRecDepth 100000 in
theorem jhg (b g cap t : Nat) (p : Value) (l : List UInt8) (cur : Array Value) (fz : Nat × Nat) (w : World) (hbk : w.heap[b]? = some (.cells #[p, .slice (some ⟨g, 0, none⟩) l.length cap] t (0, 0))) (hg : w.heap[g]? = some (.cells cur 5 fz))
    (h0 : l ≠ []) (hn : l.length ≤ cap) (hm : cap ≤ maxLen) (hcs : cur.size = cap) (ht : cur.toList.take l.length = Lib.byteCells l) :
    Calls Tryz.prog 83 #[.pointer (some ⟨b, 0, none⟩)] w fun e w' => e = .returned (.string ⟨l.toArray⟩) ∧ w' = w.drew.freeze ⟨g, 0, none⟩ l.length := by
  have hl0 : l.length ≠ 0 := by simpa using h0
  have c1 : w.drew.cell? ⟨b, 1, none⟩ = some (.slice (some ⟨g, 0, none⟩) l.length cap) := by
    rw [cell_of_row w.drew b 1 _ t (0, 0) hbk]; rfl
  have hSD : (Builtin.unsafeSliceData_ #[45] 176 #[.slice (some ⟨g, 0, none⟩) l.length cap]).run Tryz.prog w.drew = .ok (.pointer (some ⟨g, 0, none⟩)) w.drew :=
    Lib.run_unsafeSliceData_row _ _ _ _ _ _ (by omega)
  have hUS : (Builtin.unsafeString_ #[176, 3] 9 #[.pointer (some ⟨g, 0, none⟩), .int .i64 l.length]).run Tryz.prog w.drew = .ok (.string ⟨l.toArray⟩) (w.drew.freeze ⟨g, 0, none⟩ l.length) := by
    refine Lib.run_unsafeString_row w.drew 176 3 9 5 Tryz.underlying176 (by kernel_rfl) g cur.size (by have hg' : w.drew.heap[g]? = some (.cells cur 5 fz) := hg; simp [World.shape?, hg']) l h0 (by omega) (by unfold maxLen at hm; omega) ?_
    intro j x hx
    have hj : j < l.length := (List.getElem?_eq_some_iff.1 hx).1
    have hadd : (⟨g, 0, none⟩ : Addr).add j = ⟨g, j, none⟩ := by unfold Addr.add; split <;> simp_all
    rw [hadd, cell_of_row w.drew g j cur 5 fz hg]
    have e : (cur.toList.take l.length)[j]? = some (.int .u8 x.toNat) := by rw [ht]; simp [Lib.byteCells, hx]
    rw [List.getElem?_take, if_pos hj] at e
    simpa using e
  go_enter Tryz.func83, Tryz.ntmps83
  go_wp2
  go_region
  all_goals (go_wp2; go_ret; exact ⟨rfl, rfl⟩)
theorem jcF (w : World) (g n x : Nat) (h : x ≠ g) : (w.freeze ⟨g, 0, none⟩ n).heap[x]? = w.heap[x]? := by
  unfold World.freeze
  split
  · rfl
  · simp [Array.getElem?_modify, Ne.symm h]
theorem jj9 (w : World) (g n x i : Nat) : (w.freeze ⟨g, 0, none⟩ n).cell? ⟨x, i, none⟩ = w.cell? ⟨x, i, none⟩ := by
  by_cases h : x = g
  · subst h
    unfold World.freeze
    split
    · rfl
    · unfold World.cell?
      simp only [Array.getElem?_modify, if_true]
      cases hx : w.heap[x]? with
      | none => rfl
      | some o => cases o <;> rfl
  · unfold World.cell?
    rw [jcF w g n x h]
theorem jiH : jab Tryz.prog 83 E_bldString := ⟨⟨_, Tryz.func83, by kernel_rfl, by kernel_rfl⟩, fun ivs res bxs h => by
  unfold E_bldString at h
  split at h
  · rename_i a e n l
    obtain ⟨hc, he⟩ := pick1 h
    cases he
    obtain ⟨hc1, k2⟩ := andE hc
    obtain ⟨k0, k1⟩ := andE hc1
    obtain rfl := nqB k0
    obtain ⟨s, q_s, h_s⟩ := jar k1
    injection q_s with qa qb
    subst qa
    subst qb
    have hn1 : 1 ≤ s.size := Nat.le_of_ble_eq_true k2
    have e_s : asBy (.sl s.size (jaj s)) = s := jcK s
    rw [e_s]
    have hlen : s.data.toList.length = s.size := Array.length_toList
    have hne : s.data.toList ≠ [] := fun e => by rw [e] at hlen; rw [← hlen] at hn1; cases hn1
    refine jdJ fun w com b t v1 v2 b1 b2 hb hcb r1 r2 o1 o2 hnd hfresh => ?_
    obtain ⟨hd, rfl⟩ := jry r1
    rw [List.nil_append] at hnd ⊢
    cases r2 with
    | lst _ _ _ _ _ xs hL =>
      have hxs : xs = Lib.byteCells s.data.toList := jdm (l := s.data.toList) hL.reps
      rcases hL.own.2 with ⟨rfl, h0⟩ | ⟨g, cap, cur, rfl, _, hg, hcap, hmax, hcs, htake⟩
      · omega
      · rw [Nat.mul_one] at hcs htake
        obtain ⟨fz, hg, hf⟩ := hg
        have hbg : b ≠ g := fun e => (List.nodup_cons.1 hnd).1 (by simp [Value.ownBlock, e])
        have hrun := jhg b g cap t v1 s.data.toList cur _ w (by rw [hlen]; exact hb) (by rw [jcN (e := 5) (by decide)] at hg; exact hg) hne (by rw [hlen]; exact hcap) hmax hcs (by rw [hlen, htake, hxs])
        refine hrun.mono ?_
        rintro e w' ⟨rfl, rfl⟩
        have hb0 := Lib.below_freeze (Below.drew (Below.refl 0 w)) (p := ⟨g, 0, none⟩) (Nat.zero_le _) s.data.toList.length
        have hx : Ext w com (w.drew.freeze ⟨g, 0, none⟩ s.data.toList.length) com := ⟨fun _ => Nat.le_refl _, fun x i hi => jj9 w.drew g _ x i⟩
        refine ⟨_, com, v1, .slice (some ⟨g, 0, none⟩) s.size cap, [], [], rfl, hx, ⟨hb0.os, hb0.tape, hb0.output, hb0.size, fun x hx' hn => jcF w.drew g _ x fun e => hn (by rw [e]; simp [Value.ownBlock])⟩, fun x hx' => hfresh x (Nat.le_trans hb0.size hx'), fun _ _ _ => rfl, .one _ _ _ (.cv _ _ _ (.pv _ _ ?_)), (jcF w.drew g _ b hbg).trans hb, hcb, .bad _, .bad _, o1, o2, by simp, by simp⟩
        exact .str s
  · cases h⟩
end
section
open Go.RowKit
noncomputable def vyb0 : List (FuncId × Entry) := [(143, E_copyCheck)]
abbrev lp_ws : List (Nat × List Nat × List Nat) := [(1000000, [], [12])]
noncomputable def q_ws0 (br : Br) (s : ByteArray) := evB br Tryz.prog vyb0 lp_ws LO0 Tryz.f79 [.box 0 bld0, cS s]
noncomputable def q_ws (br : Br) (t s : ByteArray) := evB br Tryz.prog vyb0 lp_ws LO0 Tryz.f79 [.box 0 (bldB t), cS s]
noncomputable def E_bldWrite : Entry := fun ivs => match ivs with
  | [.box 0 [.al a, .pv .nils], .cv (.pv (.str s))] => [(Nat.beq a (4 * bldT + 3) && holds (s.size ≤ 100000000), .tup [cI s.size, .cv .bad], [bldB s])]
  | [.box 0 [.al a, .lst 1 e n l false], .cv (.pv (.str s))] => [(Nat.beq a (4 * bldT + 1) && Nat.beq e 5 && isBy (.sl n l) && holds ((asBy (.sl n l)).size + s.size ≤ 100000000), .tup [cI s.size, .cv .bad], [bldB (asBy (.sl n l) ++ s)])]
  | _ => []
end
section
theorem jsZ (t : ByteArray) (s : ByteArray) : q_ws brC t s =
 brC (Nat.beq (List.length (jaj s)) (ByteArray.size s * 1) && (decide (ByteArray.size t + ByteArray.size s ≤ 140737488351232) && decide ((ByteArray.size t + ByteArray.size s) * 1 ≤ 140737488355328)))
 (some ((.tup [.cv (.pv (.int .i64 (↑(ByteArray.size s) : Int))), .cv .bad], [[.al 473, .lst 1 5 (ByteArray.size t + ByteArray.size s) (jaj t ++ jaj s) false]])))
 none := by kernel_rfl
theorem jrv (s : ByteArray) : q_ws0 brC s =
 brC (Nat.beq (List.length (jaj s)) (ByteArray.size s * 1) && (decide (ByteArray.size s ≤ 140737488351232) && decide (ByteArray.size s * 1 ≤ 140737488355328)))
 (some ((.tup [.cv (.pv (.int .i64 (↑(ByteArray.size s) : Int))), .cv .bad], [[.al 473, .lst 1 5 (ByteArray.size s) (jaj s) false]])))
 none := by kernel_rfl
end
section
open Go.RowKit
theorem jtl : jae Tryz.prog vyb0 := ⟨jjc, trivial⟩
theorem jgE (s : ByteArray) : Nat.beq (jaj s).length (s.size * 1) = true := by rw [jbK, Nat.mul_one]; exact Nat.beq_refl _
theorem jjG : jab Tryz.prog 79 E_bldWrite := jad mix jtl (lp := lp_ws) (LO := LO0) ⟨Tryz.func79, by kernel_rfl, by kernel_rfl⟩ (by kernel_rfl) fun ivs res bxs h => by
  unfold E_bldWrite at h
  split at h
  · rename_i a s
    obtain ⟨hc, he⟩ := pick1 h
    cases he
    obtain ⟨k0, k1⟩ := andE hc
    obtain rfl := nqB k0
    have k1 := jak k1
    refine ⟨jap (by kernel_rfl), (jrv s).trans ?_⟩
    rw [jgE, dT (show s.size ≤ 140737488351232 by omega), dT (show s.size * 1 ≤ 140737488355328 by omega)]
    rfl
  · rename_i a e n l s
    obtain ⟨hc, he⟩ := pick1 h
    cases he
    obtain ⟨hc, k3⟩ := andE hc
    obtain ⟨hc, k2⟩ := andE hc
    obtain ⟨k0, k1⟩ := andE hc
    obtain rfl := nqB k0
    obtain rfl := nqB k1
    obtain ⟨t, q_t, h_t⟩ := jar k2
    injection q_t with qa qb
    subst qa
    subst qb
    have e_t : asBy (.sl t.size (jaj t)) = t := jcK t
    rw [e_t] at k3 ⊢
    have k3 := jak k3
    refine ⟨jap (by kernel_rfl), (jsZ t s).trans ?_⟩
    rw [jgE, dT (show t.size + s.size ≤ 140737488351232 by omega), dT (show (t.size + s.size) * 1 ≤ 140737488355328 by omega), jca, show t.size + s.size = (t ++ s).size from ByteArray.size_append.symm]
    rfl
  · cases h
end
section
open Go.RowKit
noncomputable def kcb0 : List (FuncId × Entry) := (174, E_longL) :: (171, E_locationOk) :: [(132, E_cmpLoc)]
noncomputable def jtn (br : Br) (i : ImT) := evB br Tryz.prog kcb0 [] LO0 Tryz.f138 [cP ((pIm i))]
noncomputable def E_imgOk : Entry := fun ivs => match ivs with
  | [.cv (.pv (p_i))] =>
    [(isIm p_i, cB (imgB (asIm p_i)), [])]
  | _ => []
noncomputable def kcb1 : List (FuncId × Entry) := (138, E_imgOk) :: kcb0
def jbF : Option ImT → List ImT → Bool
  | _, [] => true
  | p, i :: l => imgB i && (match p with | none => true | some j => decide (jex j.name j.subs i.name i.subs < 0)) && jbF (some i) l
def prevK (l : List ImT) (i : Nat) : Option ImT := if i = 0 then none else l[i - 1]?
abbrev jcH : List (Nat × List Nat × List Nat) := [(2, [0, 5, 6, 7], [0, 2])]
noncomputable def jdB (ls : LS) : List (Bool × Ex × LS) := match ls with
  | [(.pv (p_l), none), (.pv (p_u), none), (.pv (.int .i64 n), none), (.pv (.int .i64 i), none)] =>
    [(isIms p_l && isIms p_u && (n == ((asIms p_u).length)) && (i == (0)) && holds ((asIms p_l) = (asIms p_u)) && !jbF none (asIms p_u), .ret, [aP (pIms (asIms p_u)), aB false]),
     (isIms p_l && isIms p_u && (n == ((asIms p_u).length)) && (i == (0)) && holds ((asIms p_l) = (asIms p_u)) && jbF none (asIms p_u), .exit 0, [aP (pIms (asIms p_u)), aX])]
  | _ => []
noncomputable def jcZ : LoopT := fun k ls => bif Nat.beq k 2 then jdB ls else []
noncomputable def jqu (br : Br) (l : List ImT) (u : List ImT) (i : Int) := rdB br Tryz.prog kcb1 jcH jcZ Tryz.f76 2 [] [aP ((pIms l)), aP ((pIms u)), aP (.int .i64 (u.length)), aP (.int .i64 i)]
noncomputable def jqw (br : Br) (l : List ImT) := evB br Tryz.prog kcb1 jcH jcZ Tryz.f76 [cP ((pIms l))]
noncomputable def E_imgsOk : Entry := fun ivs => match ivs with
  | [.cv (.pv (p_l))] =>
    [(isIms p_l, cB (imgsB (asIms p_l)), [])]
  | _ => []
noncomputable def kcb2 : List (FuncId × Entry) := (85, E_l03Place) :: [(86, E_l03Less)]
abbrev jdN : List (Nat × List Nat × List Nat) := [(2, [0, 3], [0, 2])]
noncomputable def jd9 (ls : LS) : List (Bool × Ex × LS) := match ls with
  | [(.pv (p_l), none), (.pv (.int .i64 i), none)] =>
    [(isIms p_l && (i == 0) && jbr none ((asIms p_l).take 241), .exit 0, [aP (pIms (asIms p_l)), aX]),
     (isIms p_l && (i == 0), .ret, [aP (pIms (asIms p_l)), aB false])]
  | _ => []
noncomputable def jdD : LoopT := fun k ls => bif Nat.beq k 2 then jd9 ls else []
noncomputable def jsm (br : Br) (l : List ImT) (i : Int) := rdB br Tryz.prog kcb2 jdN jdD Tryz.f31 2 [] [aP ((pIms l)), aP (.int .i64 i)]
noncomputable def jtA (br : Br) (l : List ImT) := evB br Tryz.prog kcb2 jdN jdD Tryz.f31 [cP ((pIms l))]
noncomputable def jah (s : ByteArray) : ByteArray := hidS (litV (s.size : Int) 1 ++ s)
noncomputable def kcb3 : List (FuncId × Entry) := [(80, E_little)]
noncomputable def jr5 (br : Br) (s : ByteArray) := evB br Tryz.prog kcb3 [] LO0 Tryz.f115 [cS s]
noncomputable def E_short : Entry := fun ivs => match ivs with
  | [.cv (.pv (.str s))] => [(decide (s.size ≤ 1000000), cS (jah s), [])]
  | _ => []
noncomputable def juz (br : Br) (n : Int) := evB br Tryz.prog [] [] LO0 Tryz.f87 [cI n]
noncomputable def E_byte : Entry := fun ivs => match ivs with
  | [.cv (.pv (.int .i64 n))] => [(decide (0 ≤ n), cS (litV n 1), [])]
  | _ => []
noncomputable def kcb4 : List (FuncId × Entry) := [(87, E_byte)]
noncomputable def jsS (br : Br) (s : ByteArray) := evB br Tryz.prog kcb4 [] LO0 Tryz.f88 [cS s]
def kindI (i : ImT) : Int := (if i.had = true then 1 else 0) + (if i.has = true then 2 else 0)
noncomputable def valsI (i : ImT) : ByteArray := (if i.had = true then jah i.was else ⟨#[]⟩) ++ (if i.has = true then jah i.is else ⟨#[]⟩)
noncomputable def imB (i : ImT) : ByteArray := jah (keyV2 i.name i.subs) ++ litV (kindI i) 1 ++ valsI i
noncomputable def imV (i : ImT) : ByteArray := hidS (imB i)
noncomputable def kcb5 : List (FuncId × Entry) := (115, E_short) :: (113, E_KeyOf2) :: kcb3
noncomputable def jtw (br : Br) (i : ImT) := evB br Tryz.prog kcb5 [] LO0 Tryz.f82 [cP (pIm i)]
noncomputable def E_putIm : Entry := fun ivs => match ivs with
  | [.cv (.pv (p_i))] => [(isIm p_i, cS (imV (asIm p_i)), [])]
  | _ => []
noncomputable def imsT : ByteArray → List ImT → ByteArray
  | s, [] => s
  | s, x :: t => imsT (s ++ imV x) t
noncomputable def putI (l : List ImT) : ByteArray := hidS (if imgsB l = true then imsT (litV (l.length : Int) 1) l else ⟨#[]⟩)
noncomputable def jsx (br : Br) (n : Nat) (l : List PV) := evB br Tryz.prog [] [] LO0 Tryz.f81 [cP (.sl n l)]
noncomputable def E_cntIm : Entry := fun ivs => match ivs with
  | [.cv (.pv (.sl n l))] => [(true, cI n, [])]
  | _ => []
noncomputable def kcb6 : List (FuncId × Entry) := (76, E_imgsOk) :: (82, E_putIm) :: (81, E_cntIm) :: (79, E_bldWrite) :: (83, E_bldString) :: kcb3
noncomputable abbrev aBl (slot : Nat) (s : ByteArray) : AV × Option Ob := aBx slot (bldB s)
abbrev jdK : List (Nat × List Nat × List Nat) := [(6, [0, 3, 13, 14, 15], [0, 3]), (1000000, [3], [])]
noncomputable def jdy (ls : LS) : List (Bool × Ex × LS) := match ls with
  | [(.pv p, none), (.ptr y 0, some (.box [.al q, .lst 1 e2 n2 l2 false])), (.pv p2, none), (.pv (.int .i64 m), none), (.pv (.int .i64 i), none)] =>
    [(isIms p && isIms p2 && holds (asIms p = asIms p2) && Nat.beq y 12288 && Nat.beq q (4 * bldT + 1) && Nat.beq e2 5 && isBy (.sl n2 l2) && (m == ((asIms p2).length : Int)) && (i == 0) && imgsB (asIms p2) && holds ((asBy (.sl n2 l2)).size ≤ 10), .exit 0, [aP (pIms (asIms p2)), aBl 3 (imsT (asBy (.sl n2 l2)) (asIms p2))])]
  | _ => []
noncomputable def jdM : LoopT := fun k ls => bif Nat.beq k 6 then jdy ls else []
noncomputable def jqX (br : Br) (l u : List ImT) (s : ByteArray) (i : Int) := rdB br Tryz.prog kcb6 jdK jdM Tryz.f29 6 [] [aP (pIms l), aBl 3 s, aP (pIms u), aI u.length, aI i]
noncomputable def jrj (br : Br) (l : List ImT) := evB br Tryz.prog kcb6 jdK jdM Tryz.f29 [cP (pIms l)]
noncomputable def E_putIms : Entry := fun ivs => match ivs with
  | [.cv (.pv p)] => [(isIms p, cS (putI (asIms p)), [])]
  | _ => []
end
section
theorem jkG (l : List ImT) : jrj brC l =
 brC (isIms (PV.sl (List.length l) (encIm l)))
 (brC (!imgsB (asIms (PV.sl (List.length l) (encIm l))))
 (some ((.cv (.pv (.str { data := #[] })), [])))
 (brC (Nat.beq 475 475 && holds (ByteArray.size (litV (↑(List.length l) : Int) 1) ≤ 100000000))
 (brC (isIms (pIms l) && isIms (pIms l) && holds (asIms (pIms l) = asIms (pIms l)) && Nat.beq 12288 12288 && Nat.beq 473 473 && Nat.beq 5 5 && isBy (PV.sl (ByteArray.size (litV (↑(List.length l) : Int) 1)) (jaj (litV (↑(List.length l) : Int) 1))) && (↑(List.length l) : Int) == (↑(List.length (asIms (pIms l))) : Int) && 0 == 0 && imgsB (asIms (pIms l)) && holds (ByteArray.size (asBy (PV.sl (ByteArray.size (litV (↑(List.length l) : Int) 1)) (jaj (litV (↑(List.length l) : Int) 1)))) ≤ 10))
 (brC (Nat.beq 5 5 && isBy (PV.sl (ByteArray.size (imsT (asBy (PV.sl (ByteArray.size (litV (↑(List.length l) : Int) 1)) (jaj (litV (↑(List.length l) : Int) 1)))) (asIms (pIms l)))) (jaj (imsT (asBy (PV.sl (ByteArray.size (litV (↑(List.length l) : Int) 1)) (jaj (litV (↑(List.length l) : Int) 1)))) (asIms (pIms l))))) && Nat.ble 1 (ByteArray.size (imsT (asBy (PV.sl (ByteArray.size (litV (↑(List.length l) : Int) 1)) (jaj (litV (↑(List.length l) : Int) 1)))) (asIms (pIms l)))))
 (some ((.cv (.pv (.str (asBy (PV.sl (ByteArray.size (imsT (asBy (PV.sl (ByteArray.size (litV (↑(List.length l) : Int) 1)) (jaj (litV (↑(List.length l) : Int) 1)))) (asIms (pIms l)))) (jaj (imsT (asBy (PV.sl (ByteArray.size (litV (↑(List.length l) : Int) 1)) (jaj (litV (↑(List.length l) : Int) 1)))) (asIms (pIms l)))))))), [])))
 none)
 none)
 none))
 none := by kernel_rfl
theorem jkc (l : List ImT) : jqw brC l =
 brC (isIms (pIms l) && isIms (pIms l) && (↑(List.length l) : Int) == (↑(List.length (asIms (pIms l))) : Int) && 0 == 0 && holds (asIms (pIms l) = asIms (pIms l)) && !jbF none (asIms (pIms l)))
 (some ((.cv (.pv (.bool false)), [])))
 (brC (isIms (pIms l) && isIms (pIms l) && (↑(List.length l) : Int) == (↑(List.length (asIms (pIms l))) : Int) && 0 == 0 && holds (asIms (pIms l) = asIms (pIms l)) && jbF none (asIms (pIms l)))
 (some ((.cv (.pv (.bool (decide ((↑(List.length (asIms (pIms l))) : Int) ≤ 240)))), [])))
 none) := by kernel_rfl
theorem jmF (i : ImT) : jtn brC i =
 brC (decide (ByteArray.size (ImT.name i) ≤ 1000000) && isL (PV.sl (List.length (ImT.subs i)) (List.map PV.str (ImT.subs i))))
 (brC (!jaB (ImT.name i) (asL (PV.sl (List.length (ImT.subs i)) (List.map PV.str (ImT.subs i)))))
 (some ((.cv (.pv (.bool false)), [])))
 (brC (isL (PV.sl 2 [PV.str (ImT.was i), PV.str (ImT.is i)]))
 (brC (decide (frstL (asL (PV.sl 2 [PV.str (ImT.was i), PV.str (ImT.is i)])) < List.length (asL (PV.sl 2 [PV.str (ImT.was i), PV.str (ImT.is i)]))))
 (some ((.cv (.pv (.bool false)), [])))
 (brC (!ImT.had i)
 (brC (!ByteArray.toList (ImT.was i) == [])
 (some ((.cv (.pv (.bool false)), [])))
 (brC (!ImT.has i)
 (brC (!ByteArray.toList (ImT.is i) == [])
 (some ((.cv (.pv (.bool false)), [])))
 (brC (!ImT.had i == ImT.has i)
 (some ((.cv (.pv (.bool true)), [])))
 (some ((.cv (.pv (.bool !ByteArray.toList (ImT.was i) == ByteArray.toList (ImT.is i))), [])))))
 (brC (!ImT.had i == ImT.has i)
 (some ((.cv (.pv (.bool true)), [])))
 (some ((.cv (.pv (.bool !ByteArray.toList (ImT.was i) == ByteArray.toList (ImT.is i))), []))))))
 (brC (!ImT.has i)
 (brC (!ByteArray.toList (ImT.is i) == [])
 (some ((.cv (.pv (.bool false)), [])))
 (brC (!ImT.had i == ImT.has i)
 (some ((.cv (.pv (.bool true)), [])))
 (some ((.cv (.pv (.bool !ByteArray.toList (ImT.was i) == ByteArray.toList (ImT.is i))), [])))))
 (brC (!ImT.had i == ImT.has i)
 (some ((.cv (.pv (.bool true)), [])))
 (some ((.cv (.pv (.bool !ByteArray.toList (ImT.was i) == ByteArray.toList (ImT.is i))), [])))))))
 none))
 none := by kernel_rfl
theorem jmK (n : Nat) (l : List PV) : jsx brC n l =
 some ((.cv (.pv (.int .i64 (↑n : Int))), [])) := by kernel_rfl
noncomputable def zzad0 (l : List ImT) (u : List ImT) (i : Int) := (PV.agg [PV.str (PV.asStr (List.headD (List.drop (Int.toNat i * 6) (encIm u)) PV.nilp)), PV.sl (PV.slN (List.headD (List.tail (List.drop (Int.toNat i * 6) (encIm u))) PV.nilp)) (PV.slL (List.headD (List.tail (List.drop (Int.toNat i * 6) (encIm u))) PV.nilp)), PV.bool (PV.asBool (List.headD (List.tail (List.tail (List.drop (Int.toNat i * 6) (encIm u)))) PV.nilp)), PV.str (PV.asStr (List.headD (List.tail (List.tail (List.tail (List.drop (Int.toNat i * 6) (encIm u))))) PV.nilp)), PV.bool (PV.asBool (List.headD (List.tail (List.tail (List.tail (List.tail (List.drop (Int.toNat i * 6) (encIm u)))))) PV.nilp)), PV.str (PV.asStr (List.headD (List.tail (List.tail (List.tail (List.tail (List.tail (List.drop (Int.toNat i * 6) (encIm u))))))) PV.nilp))])
theorem je1 (l : List ImT) (u : List ImT) (i : Int) : jqu brC l u i =
 brC (decide (i < (↑(List.length u) : Int)))
 (brC (decide (0 ≤ i) && decide (i < (↑(List.length u) : Int)))
 (brC (Nat.ble 6 (List.length (List.drop (Int.toNat i * 6) (encIm u))) && (PV.isStr (List.headD (List.drop (Int.toNat i * 6) (encIm u)) PV.nilp) && (PV.isSl (List.headD (List.tail (List.drop (Int.toNat i * 6) (encIm u))) PV.nilp) && (PV.isBool (List.headD (List.tail (List.tail (List.drop (Int.toNat i * 6) (encIm u)))) PV.nilp) && (PV.isStr (List.headD (List.tail (List.tail (List.tail (List.drop (Int.toNat i * 6) (encIm u))))) PV.nilp) && (PV.isBool (List.headD (List.tail (List.tail (List.tail (List.tail (List.drop (Int.toNat i * 6) (encIm u)))))) PV.nilp) && (PV.isStr (List.headD (List.tail (List.tail (List.tail (List.tail (List.tail (List.drop (Int.toNat i * 6) (encIm u))))))) PV.nilp) && true && true) && true) && true) && true) && true) && true) && true)
 (brC (isIm (zzad0 l u i))
 (brC (!imgB (asIm (zzad0 l u i)))
 (some (.inr (.ret, [(.pv (.sl (List.length l) (encIm l)), none), (.pv (.bool false), none)])))
 (brC (decide (i > 0))
 (brC (decide (0 ≤ IntKind.wrap .i64 (i - 1)) && decide (IntKind.wrap .i64 (i - 1) < (↑(List.length l) : Int)))
 (brC (Nat.blt 0 (List.length (List.drop 0 (List.drop (Int.toNat (IntKind.wrap .i64 (i - 1)) * 6) (encIm l)))) && PV.isStr (List.headD (List.drop 0 (List.drop (Int.toNat (IntKind.wrap .i64 (i - 1)) * 6) (encIm l))) PV.nilp) && true)
 (brC (decide (0 ≤ IntKind.wrap .i64 (i - 1)) && decide (IntKind.wrap .i64 (i - 1) < (↑(List.length l) : Int)))
 (brC (Nat.blt 0 (List.length (List.drop 1 (List.drop (Int.toNat (IntKind.wrap .i64 (i - 1)) * 6) (encIm l)))) && PV.isSl (List.headD (List.drop 1 (List.drop (Int.toNat (IntKind.wrap .i64 (i - 1)) * 6) (encIm l))) PV.nilp) && true)
 (brC (isL (PV.sl (PV.slN (List.headD (List.drop 1 (List.drop (Int.toNat (IntKind.wrap .i64 (i - 1)) * 6) (encIm l))) PV.nilp)) (PV.slL (List.headD (List.drop 1 (List.drop (Int.toNat (IntKind.wrap .i64 (i - 1)) * 6) (encIm l))) PV.nilp))) && isL (PV.sl (PV.slN (List.headD (List.tail (List.drop (Int.toNat i * 6) (encIm u))) PV.nilp)) (PV.slL (List.headD (List.tail (List.drop (Int.toNat i * 6) (encIm u))) PV.nilp))))
 (brC (decide (jex (PV.asStr (List.headD (List.drop 0 (List.drop (Int.toNat (IntKind.wrap .i64 (i - 1)) * 6) (encIm l))) PV.nilp)) (asL (PV.sl (PV.slN (List.headD (List.drop 1 (List.drop (Int.toNat (IntKind.wrap .i64 (i - 1)) * 6) (encIm l))) PV.nilp)) (PV.slL (List.headD (List.drop 1 (List.drop (Int.toNat (IntKind.wrap .i64 (i - 1)) * 6) (encIm l))) PV.nilp)))) (PV.asStr (List.headD (List.drop (Int.toNat i * 6) (encIm u)) PV.nilp)) (asL (PV.sl (PV.slN (List.headD (List.tail (List.drop (Int.toNat i * 6) (encIm u))) PV.nilp)) (PV.slL (List.headD (List.tail (List.drop (Int.toNat i * 6) (encIm u))) PV.nilp)))) ≥ 0))
 (some (.inr (.ret, [(.pv (.sl (List.length l) (encIm l)), none), (.pv (.bool false), none)])))
 (some (.inl [(.pv (.sl (List.length l) (encIm l)), none), (.pv (.sl (List.length u) (encIm u)), none), (.pv (.int .i64 (↑(List.length u) : Int)), none), (.pv (.int .i64 (IntKind.wrap .i64 (i + 1))), none)])))
 none)
 none)
 none)
 none)
 none)
 (some (.inl [(.pv (.sl (List.length l) (encIm l)), none), (.pv (.sl (List.length u) (encIm u)), none), (.pv (.int .i64 (↑(List.length u) : Int)), none), (.pv (.int .i64 (IntKind.wrap .i64 (i + 1))), none)]))))
 none)
 none)
 none)
 (some (.inr (.exit 0, [(.pv (.sl (List.length l) (encIm l)), none), (.bad, none)]))) := by kernel_rfl
noncomputable def zzae0 (l : List ImT) (u : List ImT) (s : ByteArray) (i : Int) := (PV.agg [PV.str (PV.asStr (List.headD (List.drop (Int.toNat i * 6) (encIm u)) PV.nilp)), PV.sl (PV.slN (List.headD (List.tail (List.drop (Int.toNat i * 6) (encIm u))) PV.nilp)) (PV.slL (List.headD (List.tail (List.drop (Int.toNat i * 6) (encIm u))) PV.nilp)), PV.bool (PV.asBool (List.headD (List.tail (List.tail (List.drop (Int.toNat i * 6) (encIm u)))) PV.nilp)), PV.str (PV.asStr (List.headD (List.tail (List.tail (List.tail (List.drop (Int.toNat i * 6) (encIm u))))) PV.nilp)), PV.bool (PV.asBool (List.headD (List.tail (List.tail (List.tail (List.tail (List.drop (Int.toNat i * 6) (encIm u)))))) PV.nilp)), PV.str (PV.asStr (List.headD (List.tail (List.tail (List.tail (List.tail (List.tail (List.drop (Int.toNat i * 6) (encIm u))))))) PV.nilp))])
theorem jgi (l : List ImT) (u : List ImT) (s : ByteArray) (i : Int) : jqX brC l u s i =
 brC (decide (i < (↑(List.length u) : Int)))
 (brC (decide (0 ≤ i) && decide (i < (↑(List.length u) : Int)))
 (brC (Nat.ble 6 (List.length (List.drop (Int.toNat i * 6) (encIm u))) && (PV.isStr (List.headD (List.drop (Int.toNat i * 6) (encIm u)) PV.nilp) && (PV.isSl (List.headD (List.tail (List.drop (Int.toNat i * 6) (encIm u))) PV.nilp) && (PV.isBool (List.headD (List.tail (List.tail (List.drop (Int.toNat i * 6) (encIm u)))) PV.nilp) && (PV.isStr (List.headD (List.tail (List.tail (List.tail (List.drop (Int.toNat i * 6) (encIm u))))) PV.nilp) && (PV.isBool (List.headD (List.tail (List.tail (List.tail (List.tail (List.drop (Int.toNat i * 6) (encIm u)))))) PV.nilp) && (PV.isStr (List.headD (List.tail (List.tail (List.tail (List.tail (List.tail (List.drop (Int.toNat i * 6) (encIm u))))))) PV.nilp) && true && true) && true) && true) && true) && true) && true) && true)
 (brC (isIm (zzae0 l u s i))
 (brC (Nat.beq 473 473 && Nat.beq 5 5 && isBy (PV.sl (ByteArray.size s) (jaj s)) && holds (ByteArray.size (asBy (PV.sl (ByteArray.size s) (jaj s))) + ByteArray.size (imV (asIm (zzae0 l u s i))) ≤ 100000000))
 (some (.inl [(.pv (.sl (List.length l) (encIm l)), none), (.ptr 12288 0, some (.box [.al 473, .lst 1 5 (ByteArray.size (asBy (PV.sl (ByteArray.size s) (jaj s)) ++ imV (asIm (zzae0 l u s i)))) (jaj (asBy (PV.sl (ByteArray.size s) (jaj s)) ++ imV (asIm (zzae0 l u s i)))) false])), (.pv (.sl (List.length u) (encIm u)), none), (.pv (.int .i64 (↑(List.length u) : Int)), none), (.pv (.int .i64 (IntKind.wrap .i64 (i + 1))), none)]))
 none)
 none)
 none)
 none)
 (some (.inr (.exit 0, [(.pv (.sl (List.length l) (encIm l)), none), (.ptr 12288 0, some (.box [.al 473, .lst 1 5 (ByteArray.size s) (jaj s) false]))]))) := by kernel_rfl
theorem jmJ (s : ByteArray) : jsS brC s =
 brC (decide (ByteArray.size (litV (↑(ByteArray.size s) : Int) 1) + ByteArray.size s ≤ 9223372036854775807) && true)
 (some ((.cv (.pv (.str (litV (↑(ByteArray.size s) : Int) 1 ++ s))), [])))
 none := by kernel_rfl
noncomputable def zzaf0 (l : List ImT) (i : Int) := (List.tail (List.tail (List.tail (List.drop (Int.toNat i * 6) (encIm l)))))
noncomputable def zzaf1 (l : List ImT) (i : Int) := (PV.asBool (List.headD (List.tail (List.tail (List.drop (Int.toNat i * 6) (encIm l)))) PV.nilp) == PV.asBool (List.headD (List.tail (zzaf0 l i)) PV.nilp))
noncomputable def zzaf2 (l : List ImT) (i : Int) := (ByteArray.toList (PV.asStr (List.headD (zzaf0 l i) PV.nilp)) == ByteArray.toList (PV.asStr (List.headD (List.tail (List.tail (zzaf0 l i))) PV.nilp)))
noncomputable def zzaf3 (l : List ImT) (i : Int) := (PV.sl (PV.slN (List.headD (List.tail (List.drop (Int.toNat i * 6) (encIm l))) PV.nilp)) (PV.slL (List.headD (List.tail (List.drop (Int.toNat i * 6) (encIm l))) PV.nilp)))
theorem jgD (l : List ImT) (i : Int) : jsm brC l i =
 brC (decide (i < (↑(List.length l) : Int)))
 (brC (decide (i ≤ 240))
 (brC (decide (0 ≤ i) && decide (i < (↑(List.length l) : Int)))
 (brC (Nat.ble 6 (List.length (List.drop (Int.toNat i * 6) (encIm l))) && (PV.isStr (List.headD (List.drop (Int.toNat i * 6) (encIm l)) PV.nilp) && (PV.isSl (List.headD (List.tail (List.drop (Int.toNat i * 6) (encIm l))) PV.nilp) && (PV.isBool (List.headD (List.tail (List.tail (List.drop (Int.toNat i * 6) (encIm l)))) PV.nilp) && (PV.isStr (List.headD (zzaf0 l i) PV.nilp) && (PV.isBool (List.headD (List.tail (zzaf0 l i)) PV.nilp) && (PV.isStr (List.headD (List.tail (List.tail (zzaf0 l i))) PV.nilp) && true && true) && true) && true) && true) && true) && true) && true)
 (brC (decide (ByteArray.size (PV.asStr (List.headD (List.drop (Int.toNat i * 6) (encIm l)) PV.nilp)) ≤ 1000000) && isL (zzaf3 l i))
 (brC (!jaB (PV.asStr (List.headD (List.drop (Int.toNat i * 6) (encIm l)) PV.nilp)) (asL (zzaf3 l i)))
 (some (.inr (.ret, [(.pv (.sl (List.length l) (encIm l)), none), (.pv (.bool false), none)])))
 (brC (decide (i > 0))
 (brC (decide (0 ≤ IntKind.wrap .i64 (i - 1)) && decide (IntKind.wrap .i64 (i - 1) < (↑(List.length l) : Int)))
 (brC (Nat.blt 0 (List.length (List.drop 0 (List.drop (Int.toNat (IntKind.wrap .i64 (i - 1)) * 6) (encIm l)))) && PV.isStr (List.headD (List.drop 0 (List.drop (Int.toNat (IntKind.wrap .i64 (i - 1)) * 6) (encIm l))) PV.nilp) && true)
 (brC (decide (0 ≤ IntKind.wrap .i64 (i - 1)) && decide (IntKind.wrap .i64 (i - 1) < (↑(List.length l) : Int)))
 (brC (Nat.blt 0 (List.length (List.drop 1 (List.drop (Int.toNat (IntKind.wrap .i64 (i - 1)) * 6) (encIm l)))) && PV.isSl (List.headD (List.drop 1 (List.drop (Int.toNat (IntKind.wrap .i64 (i - 1)) * 6) (encIm l))) PV.nilp) && true)
 (brC (isL (PV.sl (PV.slN (List.headD (List.drop 1 (List.drop (Int.toNat (IntKind.wrap .i64 (i - 1)) * 6) (encIm l))) PV.nilp)) (PV.slL (List.headD (List.drop 1 (List.drop (Int.toNat (IntKind.wrap .i64 (i - 1)) * 6) (encIm l))) PV.nilp))) && isL (zzaf3 l i))
 (brC (!locLt (PV.asStr (List.headD (List.drop 0 (List.drop (Int.toNat (IntKind.wrap .i64 (i - 1)) * 6) (encIm l))) PV.nilp)) (asL (PV.sl (PV.slN (List.headD (List.drop 1 (List.drop (Int.toNat (IntKind.wrap .i64 (i - 1)) * 6) (encIm l))) PV.nilp)) (PV.slL (List.headD (List.drop 1 (List.drop (Int.toNat (IntKind.wrap .i64 (i - 1)) * 6) (encIm l))) PV.nilp)))) (PV.asStr (List.headD (List.drop (Int.toNat i * 6) (encIm l)) PV.nilp)) (asL (zzaf3 l i)))
 (some (.inr (.ret, [(.pv (.sl (List.length l) (encIm l)), none), (.pv (.bool false), none)])))
 (brC (decide ((↑(ByteArray.size (PV.asStr (List.headD (zzaf0 l i) PV.nilp))) : Int) > 64))
 (some (.inr (.ret, [(.pv (.sl (List.length l) (encIm l)), none), (.pv (.bool false), none)])))
 (brC (decide ((↑(ByteArray.size (PV.asStr (List.headD (List.tail (List.tail (zzaf0 l i))) PV.nilp))) : Int) > 64))
 (some (.inr (.ret, [(.pv (.sl (List.length l) (encIm l)), none), (.pv (.bool false), none)])))
 (brC (!PV.asBool (List.headD (List.tail (List.tail (List.drop (Int.toNat i * 6) (encIm l)))) PV.nilp))
 (brC (!ByteArray.toList (PV.asStr (List.headD (zzaf0 l i) PV.nilp)) == [])
 (some (.inr (.ret, [(.pv (.sl (List.length l) (encIm l)), none), (.pv (.bool false), none)])))
 (brC (!PV.asBool (List.headD (List.tail (zzaf0 l i)) PV.nilp))
 (brC (!ByteArray.toList (PV.asStr (List.headD (List.tail (List.tail (zzaf0 l i))) PV.nilp)) == [])
 (some (.inr (.ret, [(.pv (.sl (List.length l) (encIm l)), none), (.pv (.bool false), none)])))
 (brC (zzaf1 l i)
 (brC (zzaf2 l i)
 (some (.inr (.ret, [(.pv (.sl (List.length l) (encIm l)), none), (.pv (.bool false), none)])))
 (some (.inl [(.pv (.sl (List.length l) (encIm l)), none), (.pv (.int .i64 (IntKind.wrap .i64 (i + 1))), none)])))
 (some (.inl [(.pv (.sl (List.length l) (encIm l)), none), (.pv (.int .i64 (IntKind.wrap .i64 (i + 1))), none)]))))
 (brC (zzaf1 l i)
 (brC (zzaf2 l i)
 (some (.inr (.ret, [(.pv (.sl (List.length l) (encIm l)), none), (.pv (.bool false), none)])))
 (some (.inl [(.pv (.sl (List.length l) (encIm l)), none), (.pv (.int .i64 (IntKind.wrap .i64 (i + 1))), none)])))
 (some (.inl [(.pv (.sl (List.length l) (encIm l)), none), (.pv (.int .i64 (IntKind.wrap .i64 (i + 1))), none)])))))
 (brC (!PV.asBool (List.headD (List.tail (zzaf0 l i)) PV.nilp))
 (brC (!ByteArray.toList (PV.asStr (List.headD (List.tail (List.tail (zzaf0 l i))) PV.nilp)) == [])
 (some (.inr (.ret, [(.pv (.sl (List.length l) (encIm l)), none), (.pv (.bool false), none)])))
 (brC (zzaf1 l i)
 (brC (zzaf2 l i)
 (some (.inr (.ret, [(.pv (.sl (List.length l) (encIm l)), none), (.pv (.bool false), none)])))
 (some (.inl [(.pv (.sl (List.length l) (encIm l)), none), (.pv (.int .i64 (IntKind.wrap .i64 (i + 1))), none)])))
 (some (.inl [(.pv (.sl (List.length l) (encIm l)), none), (.pv (.int .i64 (IntKind.wrap .i64 (i + 1))), none)]))))
 (brC (zzaf1 l i)
 (brC (zzaf2 l i)
 (some (.inr (.ret, [(.pv (.sl (List.length l) (encIm l)), none), (.pv (.bool false), none)])))
 (some (.inl [(.pv (.sl (List.length l) (encIm l)), none), (.pv (.int .i64 (IntKind.wrap .i64 (i + 1))), none)])))
 (some (.inl [(.pv (.sl (List.length l) (encIm l)), none), (.pv (.int .i64 (IntKind.wrap .i64 (i + 1))), none)]))))))))
 none)
 none)
 none)
 none)
 none)
 (brC (decide ((↑(ByteArray.size (PV.asStr (List.headD (zzaf0 l i) PV.nilp))) : Int) > 64))
 (some (.inr (.ret, [(.pv (.sl (List.length l) (encIm l)), none), (.pv (.bool false), none)])))
 (brC (decide ((↑(ByteArray.size (PV.asStr (List.headD (List.tail (List.tail (zzaf0 l i))) PV.nilp))) : Int) > 64))
 (some (.inr (.ret, [(.pv (.sl (List.length l) (encIm l)), none), (.pv (.bool false), none)])))
 (brC (!PV.asBool (List.headD (List.tail (List.tail (List.drop (Int.toNat i * 6) (encIm l)))) PV.nilp))
 (brC (!ByteArray.toList (PV.asStr (List.headD (zzaf0 l i) PV.nilp)) == [])
 (some (.inr (.ret, [(.pv (.sl (List.length l) (encIm l)), none), (.pv (.bool false), none)])))
 (brC (!PV.asBool (List.headD (List.tail (zzaf0 l i)) PV.nilp))
 (brC (!ByteArray.toList (PV.asStr (List.headD (List.tail (List.tail (zzaf0 l i))) PV.nilp)) == [])
 (some (.inr (.ret, [(.pv (.sl (List.length l) (encIm l)), none), (.pv (.bool false), none)])))
 (brC (zzaf1 l i)
 (brC (zzaf2 l i)
 (some (.inr (.ret, [(.pv (.sl (List.length l) (encIm l)), none), (.pv (.bool false), none)])))
 (some (.inl [(.pv (.sl (List.length l) (encIm l)), none), (.pv (.int .i64 (IntKind.wrap .i64 (i + 1))), none)])))
 (some (.inl [(.pv (.sl (List.length l) (encIm l)), none), (.pv (.int .i64 (IntKind.wrap .i64 (i + 1))), none)]))))
 (brC (zzaf1 l i)
 (brC (zzaf2 l i)
 (some (.inr (.ret, [(.pv (.sl (List.length l) (encIm l)), none), (.pv (.bool false), none)])))
 (some (.inl [(.pv (.sl (List.length l) (encIm l)), none), (.pv (.int .i64 (IntKind.wrap .i64 (i + 1))), none)])))
 (some (.inl [(.pv (.sl (List.length l) (encIm l)), none), (.pv (.int .i64 (IntKind.wrap .i64 (i + 1))), none)])))))
 (brC (!PV.asBool (List.headD (List.tail (zzaf0 l i)) PV.nilp))
 (brC (!ByteArray.toList (PV.asStr (List.headD (List.tail (List.tail (zzaf0 l i))) PV.nilp)) == [])
 (some (.inr (.ret, [(.pv (.sl (List.length l) (encIm l)), none), (.pv (.bool false), none)])))
 (brC (zzaf1 l i)
 (brC (zzaf2 l i)
 (some (.inr (.ret, [(.pv (.sl (List.length l) (encIm l)), none), (.pv (.bool false), none)])))
 (some (.inl [(.pv (.sl (List.length l) (encIm l)), none), (.pv (.int .i64 (IntKind.wrap .i64 (i + 1))), none)])))
 (some (.inl [(.pv (.sl (List.length l) (encIm l)), none), (.pv (.int .i64 (IntKind.wrap .i64 (i + 1))), none)]))))
 (brC (zzaf1 l i)
 (brC (zzaf2 l i)
 (some (.inr (.ret, [(.pv (.sl (List.length l) (encIm l)), none), (.pv (.bool false), none)])))
 (some (.inl [(.pv (.sl (List.length l) (encIm l)), none), (.pv (.int .i64 (IntKind.wrap .i64 (i + 1))), none)])))
 (some (.inl [(.pv (.sl (List.length l) (encIm l)), none), (.pv (.int .i64 (IntKind.wrap .i64 (i + 1))), none)])))))))))
 none)
 none)
 none)
 (some (.inr (.exit 0, [(.pv (.sl (List.length l) (encIm l)), none), (.bad, none)]))))
 (some (.inr (.exit 0, [(.pv (.sl (List.length l) (encIm l)), none), (.bad, none)]))) := by kernel_rfl
theorem jl7 (s : ByteArray) : jr5 brC s =
 brC (decide (ByteArray.size (litV (↑(ByteArray.size s) : Int) 1) + ByteArray.size s ≤ 9223372036854775807) && true)
 (some ((.cv (.pv (.str (litV (↑(ByteArray.size s) : Int) 1 ++ s))), [])))
 none := by kernel_rfl
theorem jpk (n : Int) : juz brC n =
 some ((.cv (.pv (.str { data := #[UInt8.ofNat (Int.toNat (IntKind.wrap .u8 n))] })), [])) := by kernel_rfl
theorem jmh (l : List ImT) : jtA brC l =
 brC (isIms (pIms l) && 0 == 0 && jbr none (List.take 241 (asIms (pIms l))))
 (some ((.cv (.pv (.bool (decide ((↑(List.length (asIms (pIms l))) : Int) ≤ 240)))), [])))
 (brC (isIms (pIms l) && 0 == 0)
 (some ((.cv (.pv (.bool false)), [])))
 none) := by kernel_rfl
theorem jmt (i : ImT) : jtw brC i =
 brC (ImT.had i)
 (brC (decide (ByteArray.size (ImT.was i) ≤ 1000000))
 (brC (decide (0 + ByteArray.size (jah (ImT.was i)) ≤ 9223372036854775807) && true)
 (brC (ImT.has i)
 (brC (decide (ByteArray.size (ImT.is i) ≤ 1000000))
 (brC (decide (ByteArray.size ({ data := #[] } ++ jah (ImT.was i)) + ByteArray.size (jah (ImT.is i)) ≤ 9223372036854775807) && true)
 (brC (decide (ByteArray.size (ImT.name i) ≤ 1000000) && isL (PV.sl (List.length (ImT.subs i)) (List.map PV.str (ImT.subs i))))
 (brC (decide (ByteArray.size (keyV2 (ImT.name i) (asL (PV.sl (List.length (ImT.subs i)) (List.map PV.str (ImT.subs i))))) ≤ 1000000))
 (brC (decide (ByteArray.size (jah (keyV2 (ImT.name i) (asL (PV.sl (List.length (ImT.subs i)) (List.map PV.str (ImT.subs i)))))) + ByteArray.size (litV (IntKind.wrap .i64 (IntKind.wrap .i64 (0 + 1) + 2)) 1) ≤ 9223372036854775807) && true)
 (brC (decide (ByteArray.size (jah (keyV2 (ImT.name i) (asL (PV.sl (List.length (ImT.subs i)) (List.map PV.str (ImT.subs i))))) ++ litV (IntKind.wrap .i64 (IntKind.wrap .i64 (0 + 1) + 2)) 1) + ByteArray.size ({ data := #[] } ++ jah (ImT.was i) ++ jah (ImT.is i)) ≤ 9223372036854775807) && true)
 (some ((.cv (.pv (.str (jah (keyV2 (ImT.name i) (asL (PV.sl (List.length (ImT.subs i)) (List.map PV.str (ImT.subs i))))) ++ litV (IntKind.wrap .i64 (IntKind.wrap .i64 (0 + 1) + 2)) 1 ++ ({ data := #[] } ++ jah (ImT.was i) ++ jah (ImT.is i))))), [])))
 none)
 none)
 none)
 none)
 none)
 none)
 (brC (decide (ByteArray.size (ImT.name i) ≤ 1000000) && isL (PV.sl (List.length (ImT.subs i)) (List.map PV.str (ImT.subs i))))
 (brC (decide (ByteArray.size (keyV2 (ImT.name i) (asL (PV.sl (List.length (ImT.subs i)) (List.map PV.str (ImT.subs i))))) ≤ 1000000))
 (brC (decide (ByteArray.size (jah (keyV2 (ImT.name i) (asL (PV.sl (List.length (ImT.subs i)) (List.map PV.str (ImT.subs i)))))) + ByteArray.size (litV (IntKind.wrap .i64 (0 + 1)) 1) ≤ 9223372036854775807) && true)
 (brC (decide (ByteArray.size (jah (keyV2 (ImT.name i) (asL (PV.sl (List.length (ImT.subs i)) (List.map PV.str (ImT.subs i))))) ++ litV (IntKind.wrap .i64 (0 + 1)) 1) + ByteArray.size ({ data := #[] } ++ jah (ImT.was i)) ≤ 9223372036854775807) && true)
 (some ((.cv (.pv (.str (jah (keyV2 (ImT.name i) (asL (PV.sl (List.length (ImT.subs i)) (List.map PV.str (ImT.subs i))))) ++ litV (IntKind.wrap .i64 (0 + 1)) 1 ++ ({ data := #[] } ++ jah (ImT.was i))))), [])))
 none)
 none)
 none)
 none))
 none)
 none)
 (brC (ImT.has i)
 (brC (decide (ByteArray.size (ImT.is i) ≤ 1000000))
 (brC (decide (0 + ByteArray.size (jah (ImT.is i)) ≤ 9223372036854775807) && true)
 (brC (decide (ByteArray.size (ImT.name i) ≤ 1000000) && isL (PV.sl (List.length (ImT.subs i)) (List.map PV.str (ImT.subs i))))
 (brC (decide (ByteArray.size (keyV2 (ImT.name i) (asL (PV.sl (List.length (ImT.subs i)) (List.map PV.str (ImT.subs i))))) ≤ 1000000))
 (brC (decide (ByteArray.size (jah (keyV2 (ImT.name i) (asL (PV.sl (List.length (ImT.subs i)) (List.map PV.str (ImT.subs i)))))) + ByteArray.size (litV (IntKind.wrap .i64 (0 + 2)) 1) ≤ 9223372036854775807) && true)
 (brC (decide (ByteArray.size (jah (keyV2 (ImT.name i) (asL (PV.sl (List.length (ImT.subs i)) (List.map PV.str (ImT.subs i))))) ++ litV (IntKind.wrap .i64 (0 + 2)) 1) + ByteArray.size ({ data := #[] } ++ jah (ImT.is i)) ≤ 9223372036854775807) && true)
 (some ((.cv (.pv (.str (jah (keyV2 (ImT.name i) (asL (PV.sl (List.length (ImT.subs i)) (List.map PV.str (ImT.subs i))))) ++ litV (IntKind.wrap .i64 (0 + 2)) 1 ++ ({ data := #[] } ++ jah (ImT.is i))))), [])))
 none)
 none)
 none)
 none)
 none)
 none)
 (brC (decide (ByteArray.size (ImT.name i) ≤ 1000000) && isL (PV.sl (List.length (ImT.subs i)) (List.map PV.str (ImT.subs i))))
 (brC (decide (ByteArray.size (keyV2 (ImT.name i) (asL (PV.sl (List.length (ImT.subs i)) (List.map PV.str (ImT.subs i))))) ≤ 1000000))
 (brC (decide (ByteArray.size (jah (keyV2 (ImT.name i) (asL (PV.sl (List.length (ImT.subs i)) (List.map PV.str (ImT.subs i)))))) + ByteArray.size (litV 0 1) ≤ 9223372036854775807) && true)
 (brC (decide (ByteArray.size (jah (keyV2 (ImT.name i) (asL (PV.sl (List.length (ImT.subs i)) (List.map PV.str (ImT.subs i))))) ++ litV 0 1) + 0 ≤ 9223372036854775807) && true)
 (some ((.cv (.pv (.str (jah (keyV2 (ImT.name i) (asL (PV.sl (List.length (ImT.subs i)) (List.map PV.str (ImT.subs i))))) ++ litV 0 1 ++ { data := #[] }))), [])))
 none)
 none)
 none)
 none)) := by kernel_rfl
end
section
open Go.RowKit
theorem jpE : jae Tryz.prog kcb0 := ⟨jqH, jcp, joA, trivial⟩
theorem joq (a b : ByteArray) : decide (frstL [a, b] < [a, b].length) = (decide ((a.size : Int) > 64) || decide ((b.size : Int) > 64)) := by
  unfold frstL
  rw [jle]
  simp
theorem jq4 : jab Tryz.prog 138 E_imgOk := jad mix jpE (lp := []) (LO := LO0) ⟨Tryz.func138, by kernel_rfl, by kernel_rfl⟩ (by kernel_rfl) fun ivs res bxs h => by
  unfold E_imgOk at h
  split at h
  · rename_i p_i
    obtain ⟨hc, he⟩ := pick1 h
    cases he
    have k0 := hc
    obtain ⟨i, rfl, h_i⟩ := jar k0
    have e_i : asIm (pIm i) = i := jdv i
    have i_i := jf9 h_i
    try simp only [e_i]
    obtain ⟨g1, g2, g3, g4⟩ := h_i
    have iL := jaq g2
    have x2 : shL [i.was, i.is] := ⟨by simp, fun s hs => by
      rcases List.mem_cons.1 hs with rfl | hs
      · exact g3
      · rw [List.mem_singleton.1 hs]; exact g4⟩
    have i2 : isL (PV.sl 2 [PV.str i.was, PV.str i.is]) = true := jaq x2
    have a2 : asL (PV.sl 2 [PV.str i.was, PV.str i.is]) = [i.was, i.is] := jal [i.was, i.is]
    refine ⟨jap (by kernel_rfl), (jmF i).trans ?_⟩
    rw [i2, a2, joq]
    simp (disch := first | omega | rfl) only [isL, iL, jal, dT, Bool.and_true, Bool.true_and]
    unfold imgB
    have e0 : (⟨#[]⟩ : ByteArray).toList = [] := ByteArray.toList_mk []
    unfold sEq
    rw [e0]
    have l1 : decide ((i.was.size : Int) > 64) = !decide (i.was.size ≤ 64) := by by_cases h : i.was.size ≤ 64 <;> simp [h] <;> omega
    have l2 : decide ((i.is.size : Int) > 64) = !decide (i.is.size ≤ 64) := by by_cases h : i.is.size ≤ 64 <;> simp [h] <;> omega
    rw [l1, l2]
    generalize jaB i.name i.subs = p
    generalize decide (i.was.size ≤ 64) = u
    generalize decide (i.is.size ≤ 64) = v
    generalize (i.was.toList == ([] : List UInt8)) = a
    generalize (i.is.toList == ([] : List UInt8)) = b
    generalize (i.was.toList == i.is.toList) = c
    generalize i.had = d
    generalize i.has = e
    cases p <;> cases u <;> cases v <;> cases d <;> cases e <;> cases a <;> cases b <;> cases c <;> rfl
  · cases h
theorem jrZ : jae Tryz.prog kcb1 := ⟨jq4, jpE⟩
theorem jfx : ∀ (l : List ImT) (p : Option ImT), jbF p l = jbr p l
  | [], _ => rfl
  | i :: l, p => by
    unfold jbF jbr
    rw [jfx l (some i)]
    cases p with
    | none => rfl
    | some j =>
      dsimp only
      rw [jmf]
theorem jeH (t : List ImT) (h : shIms t) : ∀ (m i : Nat), m + i = t.length → LoopsTo (rdB brC Tryz.prog kcb1 jcH jcZ Tryz.f76 2 []) [aP (pIms t), aP (pIms t), aI t.length, aI i] (if jbF (prevK t i) (t.drop i) = true then (.exit 0, [aP (pIms t), aX]) else (.ret, [aP (pIms t), aB false])) := by
  have hl := h.1
  intro m
  induction m with
  | zero =>
    intro i hm
    obtain rfl : i = t.length := by omega
    rw [List.drop_length]
    refine .done _ _ ((je1 t t t.length).trans ?_)
    try delta zzad0
    rw [dF (by omega)]
    rfl
  | succ m ih =>
    intro i hm
    have hi : i < t.length := by omega
    have hs := jcY h hi
    have ih' := ih (i + 1) (by omega)
    have hp1 : prevK t (i + 1) = some t[i] := by unfold prevK; rw [if_neg (by omega)]; simp [hi]
    rw [hp1] at ih'
    rw [List.drop_eq_getElem_cons hi]
    unfold jbF
    have tree := je1 t t i
    revert tree; try delta zzad0; intro tree
    simp (disch := first | omega | rfl) only [ja4 t i hi, jf9 hs, jdv, jal, jaq hs.2.1, dT, Int.toNat_natCast, List.length_cons, List.headD_cons, List.tail_cons, List.drop_zero, List.drop_succ_cons, PV.isStr, PV.asStr, PV.isSl, PV.slN, PV.slL, PV.isInt, PV.asInt, PV.isBool, PV.asBool, ble1, ble2, ble3, ble4, ble5, ble6, blt0, wrap1, Bool.and_true, Bool.true_and] at tree
    cases hn : imgB t[i] with
    | false =>
      rw [hn] at tree
      simp only [Bool.false_and, if_neg Bool.false_ne_true]
      exact .done _ _ tree
    | true =>
      rw [hn] at tree
      by_cases h0 : i = 0
      · subst h0
        have hp : prevK t 0 = none := rfl
        rw [hp]
        simp only [Bool.true_and]
        rw [dF (by omega)] at tree
        exact .step _ _ _ tree ih'
      · have hj : i - 1 < t.length := by omega
        have hsj := jcY h hj
        have w1 : IntKind.wrap .i64 ((i : Int) - 1) = ((i - 1 : Nat) : Int) := by rw [wrapI (by omega) (by omega)]; omega
        have hp : prevK t i = some t[i - 1] := by unfold prevK; rw [if_neg h0]; simp [hj]
        rw [hp]
        simp (disch := first | omega | rfl) only [w1, ja4 t (i - 1) hj, jal, jaq hsj.2.1, dT, Int.toNat_natCast, List.length_cons, List.headD_cons, List.tail_cons, List.drop_zero, List.drop_succ_cons, PV.isStr, PV.asStr, PV.isSl, PV.slN, PV.slL, PV.isInt, PV.asInt, PV.isBool, PV.asBool, ble1, ble2, ble3, ble4, ble5, ble6, blt0, wrap1, Bool.and_true, Bool.true_and] at tree
        dsimp only
        by_cases hlt : jex t[i - 1].name t[i - 1].subs t[i].name t[i].subs < 0
        · rw [dF (show ¬ jex t[i - 1].name t[i - 1].subs t[i].name t[i].subs ≥ 0 by omega)] at tree
          simp only [dT hlt, Bool.true_and]
          exact .step _ _ _ tree ih'
        · rw [dT (show jex t[i - 1].name t[i - 1].subs t[i].name t[i].subs ≥ 0 by omega)] at tree
          simp only [dF hlt, Bool.false_and, Bool.true_and, if_neg Bool.false_ne_true]
          exact .done _ _ tree
theorem jiS : ∀ b ∈ jat (jbc Tryz.f76), jbk Tryz.prog (tabL kcb1) (OL jcH) Tryz.f76.ntmps (pbOf []) jcZ b := by
  refine jaw 2 (by kernel_rfl) (by kernel_rfl) (by kernel_rfl) ?_
  intro ls e ls' hl
  replace hl : pickA (jdB ls) = some (e, ls') := hl
  unfold jdB at hl
  split at hl
  · rename_i p_l p_u n i
    rcases pick2 hl with ⟨hc, he⟩ | ⟨hn, hc, he⟩
    · cases he
      obtain ⟨hc, k5⟩ := andE hc
      obtain ⟨hc, k4⟩ := andE hc
      obtain ⟨hc, k3⟩ := andE hc
      obtain ⟨hc, k2⟩ := andE hc
      obtain ⟨hc, k1⟩ := andE hc
      have k0 := hc
      obtain ⟨l, rfl, h_l⟩ := jar k0
      have e_l : asIms (pIms l) = l := jan l
      have i_l := jaz h_l
      obtain ⟨u, rfl, h_u⟩ := jar k1
      have e_u : asIms (pIms u) = u := jan u
      have i_u := jaz h_u
      try simp only [e_l, e_u] at k2
      obtain rfl := eq_of_beq k2
      try simp only [e_l, e_u] at k3
      obtain rfl := eq_of_beq k3
      try simp only [e_l, e_u] at k4
      have c0 := jak k4
      try simp only [e_l, e_u] at k5
      have c1 := k5
      try simp only [e_l, e_u]
      subst c0
      have := jeH l h_l l.length 0 (by omega)
      rw [List.drop_zero, show prevK l 0 = none from rfl] at this
      rw [Bool.not_eq_true'] at c1
      rw [c1, if_neg Bool.false_ne_true] at this
      exact this
    · cases he
      obtain ⟨hc, k5⟩ := andE hc
      obtain ⟨hc, k4⟩ := andE hc
      obtain ⟨hc, k3⟩ := andE hc
      obtain ⟨hc, k2⟩ := andE hc
      obtain ⟨hc, k1⟩ := andE hc
      have k0 := hc
      obtain ⟨l, rfl, h_l⟩ := jar k0
      have e_l : asIms (pIms l) = l := jan l
      have i_l := jaz h_l
      obtain ⟨u, rfl, h_u⟩ := jar k1
      have e_u : asIms (pIms u) = u := jan u
      have i_u := jaz h_u
      try simp only [e_l, e_u] at k2
      obtain rfl := eq_of_beq k2
      try simp only [e_l, e_u] at k3
      obtain rfl := eq_of_beq k3
      try simp only [e_l, e_u] at k4
      have c0 := jak k4
      try simp only [e_l, e_u] at k5
      have c1 := k5
      try simp only [e_l, e_u]
      subst c0
      have := jeH l h_l l.length 0 (by omega)
      rw [List.drop_zero, show prevK l 0 = none from rfl, c1, if_pos rfl] at this
      exact this
  · cases hl
theorem ji0 : jab Tryz.prog 76 E_imgsOk := jad mix jrZ (lp := jcH) (LO := jcZ) ⟨Tryz.func76, by kernel_rfl, by kernel_rfl⟩ (by kernel_rfl) fun ivs res bxs h => by
  unfold E_imgsOk at h
  split at h
  · rename_i p_l
    obtain ⟨hc, he⟩ := pick1 h
    cases he
    have k0 := hc
    obtain ⟨l, rfl, h_l⟩ := jar k0
    have e_l : asIms (pIms l) = l := jan l
    have i_l := jaz h_l
    try simp only [e_l]
    refine ⟨jiS, (jkc l).trans ?_⟩
    have hl := h_l.1
    have hr : holds (l = l) = true := jag rfl
    simp only [hr, jmT, isIms, i_l, jan, e_l, beq_self_eq_true, Bool.and_true, Bool.true_and, jrO, jfx]
    unfold imgsB
    cases jbr none l with
    | false => rfl
    | true =>
      by_cases h4 : l.length ≤ 240
      · rw [dT h4, dT (show (l.length : Int) ≤ 240 by omega)]; rfl
      · rw [dF h4, dF (show ¬ (l.length : Int) ≤ 240 by omega)]; rfl
  · cases h
theorem js1 : jae Tryz.prog kcb2 := ⟨jfk, jmS, trivial⟩
theorem jmD (i : ImT) : imgB i = (jaB i.name i.subs && !decide ((i.was.size : Int) > 64) && !decide ((i.is.size : Int) > 64) && (i.had || (i.was.toList == ([] : List UInt8))) && (i.has || (i.is.toList == ([] : List UInt8))) && (!(i.had == i.has) || !(i.was.toList == i.is.toList))) := by
  unfold imgB sEq
  have e0 : (⟨#[]⟩ : ByteArray).toList = [] := ByteArray.toList_mk []
  rw [e0]
  have l1 : decide ((i.was.size : Int) > 64) = !decide (i.was.size ≤ 64) := by by_cases h : i.was.size ≤ 64 <;> simp [h] <;> omega
  have l2 : decide ((i.is.size : Int) > 64) = !decide (i.is.size ≤ 64) := by by_cases h : i.is.size ≤ 64 <;> simp [h] <;> omega
  rw [l1, l2, Bool.not_not, Bool.not_not]
  cases i.had <;> cases i.has <;> rfl
theorem jmR (l : List ImT) (h : shIms l) (i : Nat) (hi : i < l.length) (h240 : i ≤ 240) :
    rdB brC Tryz.prog kcb2 jdN jdD Tryz.f31 2 [] [aP (pIms l), aI i] = some (bif (imgB l[i] && (match prevK l i with | none => true | some j => imLt j l[i])) then .inl [aP (pIms l), aI ((i + 1 : Nat) : Int)] else .inr (.ret, [aP (pIms l), aB false])) := by
  have hs := jcY h hi
  have hl := h.1
  have tree := jgD l i
  revert tree; try delta zzaf3; intro tree
  revert tree; try delta zzaf2; intro tree
  revert tree; try delta zzaf1; intro tree
  revert tree; try delta zzaf0; intro tree
  rw [jmD]
  simp (disch := first | omega | rfl) only [ja4 l i hi, jal, isL, jaq hs.2.1, dT hs.1, dT, Int.toNat_natCast, List.length_cons, List.headD_cons, List.tail_cons, List.drop_zero, List.drop_succ_cons, PV.isStr, PV.asStr, PV.isSl, PV.slN, PV.slL, PV.isInt, PV.asInt, PV.isBool, PV.asBool, ble1, ble2, ble3, ble4, ble5, ble6, blt0, wrap1, Bool.and_true, Bool.true_and] at tree
  refine tree.trans ?_
  by_cases h0 : i = 0
  · have hp : prevK l i = none := by unfold prevK; rw [if_pos h0]
    rw [hp, dF (show ¬ (i : Int) > 0 by omega)]
    generalize jaB l[i].name l[i].subs = p
    generalize decide ((l[i].was.size : Int) > 64) = u
    generalize decide ((l[i].is.size : Int) > 64) = v
    generalize (l[i].was.toList == ([] : List UInt8)) = a
    generalize (l[i].is.toList == ([] : List UInt8)) = b
    generalize (l[i].was.toList == l[i].is.toList) = c
    generalize l[i].had = d
    generalize l[i].has = e
    cases p
    · rfl
    cases u
    · cases v
      · cases d <;> cases e <;> cases a <;> cases b <;> cases c <;> rfl
      · rfl
    · rfl
  · have hj : i - 1 < l.length := by omega
    have hsj := jcY h hj
    have w1 : IntKind.wrap .i64 ((i : Int) - 1) = ((i - 1 : Nat) : Int) := by rw [wrapI (by omega) (by omega)]; omega
    have hp : prevK l i = some l[i - 1] := by unfold prevK; rw [if_neg h0]; simp [hj]
    rw [hp, dT (show (i : Int) > 0 by omega), w1]
    simp (disch := first | omega | rfl) only [ja4 l (i - 1) hj, jal, isL, jaq hs.2.1, jaq hsj.2.1, dT, Int.toNat_natCast, List.length_cons, List.headD_cons, List.tail_cons, List.drop_zero, List.drop_succ_cons, PV.isStr, PV.asStr, PV.isSl, PV.slN, PV.slL, blt0, Bool.and_true, Bool.true_and]
    dsimp only [imLt]
    generalize jaB l[i].name l[i].subs = p
    generalize locLt l[i - 1].name l[i - 1].subs l[i].name l[i].subs = q
    generalize decide ((l[i].was.size : Int) > 64) = u
    generalize decide ((l[i].is.size : Int) > 64) = v
    generalize (l[i].was.toList == ([] : List UInt8)) = a
    generalize (l[i].is.toList == ([] : List UInt8)) = b
    generalize (l[i].was.toList == l[i].is.toList) = c
    generalize l[i].had = d
    generalize l[i].has = e
    cases p
    · rfl
    cases q
    · cases u <;> cases v <;> cases d <;> cases e <;> cases a <;> cases b <;> cases c <;> rfl
    cases u
    · cases v
      · cases d <;> cases e <;> cases a <;> cases b <;> cases c <;> rfl
      · cases d <;> cases e <;> cases a <;> cases b <;> cases c <;> rfl
    · cases v <;> cases d <;> cases e <;> cases a <;> cases b <;> cases c <;> rfl
theorem jgX (l : List ImT) (h : shIms l) : ∀ (m i : Nat), m + i = min l.length 241 → LoopsTo (rdB brC Tryz.prog kcb2 jdN jdD Tryz.f31 2 []) [aP (pIms l), aI i] (if jbr (prevK l i) ((l.take 241).drop i) = true then (.exit 0, [aP (pIms l), aX]) else (.ret, [aP (pIms l), aB false])) := by
  have hl := h.1
  intro m
  induction m with
  | zero =>
    intro i hi
    rw [List.drop_eq_nil_of_le (by rw [List.length_take]; omega)]
    refine .done _ _ ((jgD l i).trans ?_)
    try delta zzaf3
    try delta zzaf2
    try delta zzaf1
    try delta zzaf0
    by_cases h1 : i < l.length
    · rw [dT (show (i : Int) < (l.length : Int) by omega), dF (show ¬ (i : Int) ≤ 240 by omega)]
      rfl
    · rw [dF (show ¬ (i : Int) < (l.length : Int) by omega)]
      rfl
  | succ m ih =>
    intro i hi
    have hil : i < l.length := by omega
    have hit : i < (l.take 241).length := by rw [List.length_take]; omega
    have ih' := ih (i + 1) (by omega)
    have st := jmR l h i hil (by omega)
    have hp1 : prevK l (i + 1) = some l[i] := by unfold prevK; rw [if_neg (by omega)]; simp [hil]
    rw [hp1] at ih'
    rw [List.drop_eq_getElem_cons hit]
    have e241 : (l.take 241)[i] = l[i] := List.getElem_take
    rw [e241]
    conv => rhs; unfold jbr
    cases hn : (imgB l[i] && (match prevK l i with | none => true | some j => imLt j l[i])) with
    | true =>
      rw [hn] at st
      rw [Bool.true_and]
      exact .step _ _ _ st ih'
    | false =>
      rw [hn] at st
      rw [Bool.false_and, if_neg Bool.false_ne_true]
      exact .done _ _ st
theorem jlV : jab Tryz.prog 31 E_imgsOk := jad mix js1 (lp := jdN) (LO := jdD) ⟨Tryz.func31, by kernel_rfl, by kernel_rfl⟩ (by kernel_rfl) fun ivs res bxs h => by
  unfold E_imgsOk at h
  split at h
  · rename_i p_l
    obtain ⟨hc, he⟩ := pick1 h
    cases he
    obtain ⟨l, rfl, h_l⟩ := jar hc
    have e_l : asIms (pIms l) = l := jan l
    have i_l : isIms (pIms l) = true := jaz h_l
    rw [e_l]
    refine ⟨jaw 2 (by kernel_rfl) (by kernel_rfl) (by kernel_rfl) ?_, (jmh l).trans ?_⟩
    · intro ls e ls' hl
      replace hl : pickA (jd9 ls) = some (e, ls') := hl
      unfold jd9 at hl
      split at hl
      · rename_i p_l i
        rcases pick2 hl with ⟨hc, he⟩ | ⟨hn, hc, he⟩
        · cases he
          obtain ⟨hc, k2⟩ := andE hc
          obtain ⟨k0, k1⟩ := andE hc
          obtain ⟨u, rfl, h_u⟩ := jar k0
          have e_u : asIms (pIms u) = u := jan u
          rw [e_u] at k2 ⊢
          rw [eq_of_beq k1]
          have := jgX u h_u (min u.length 241) 0 rfl
          rw [List.drop_zero, show prevK u 0 = none from rfl, k2, if_pos rfl] at this
          exact this
        · cases he
          obtain ⟨k0, k1⟩ := andE hc
          obtain ⟨u, rfl, h_u⟩ := jar k0
          have e_u : asIms (pIms u) = u := jan u
          rw [hc, e_u, Bool.true_and] at hn
          rw [e_u, eq_of_beq k1]
          have := jgX u h_u (min u.length 241) 0 rfl
          rw [List.drop_zero, show prevK u 0 = none from rfl, hn, if_neg Bool.false_ne_true] at this
          exact this
      · cases hl
    · rw [e_l, i_l]
      unfold imgsB
      have hz : decide ((l.length : Int) ≤ 240) = decide (l.length ≤ 240) := by by_cases h : l.length ≤ 240 <;> simp [h] <;> omega
      rw [hz]
      by_cases h240 : l.length ≤ 240
      · rw [List.take_of_length_le (by omega)]
        cases jbr none l <;> rfl
      · rw [decide_eq_false h240, Bool.and_false]
        cases jbr none (List.take 241 l) <;> rfl
  · cases h
theorem jax (n : Int) (k : Nat) : (litV n k).size = k := by
  rw [jhX]
  exact (jsW _).trans (jk8 k _)
theorem jbn (a : ByteArray) : (⟨#[]⟩ : ByteArray) ++ a = a := by
  apply ByteArray.ext
  rw [ByteArray.data_append]
  exact Array.empty_append
theorem jcn (a : ByteArray) : a ++ (⟨#[]⟩ : ByteArray) = a := by
  apply ByteArray.ext
  rw [ByteArray.data_append]
  exact Array.append_empty
theorem jd4 (s : ByteArray) : jah s = litV (s.size : Int) 1 ++ s := jcf _
theorem jbu (s : ByteArray) : (jah s).size = s.size + 1 := by rw [jd4, ByteArray.size_append, jax]; omega
theorem jkO : jae Tryz.prog kcb3 := ⟨jnK, trivial⟩
theorem jrp : jab Tryz.prog 115 E_short := jad mix jkO (lp := []) (LO := LO0) ⟨Tryz.func115, by kernel_rfl, by kernel_rfl⟩ (by kernel_rfl) fun ivs res bxs h => by
  unfold E_short at h
  split at h
  · rename_i s
    obtain ⟨hc, he⟩ := pick1 h
    cases he
    have hs := of_decide_eq_true hc
    refine ⟨jap (by kernel_rfl), (jl7 s).trans ?_⟩
    rw [jax, dT (show 1 + s.size ≤ 9223372036854775807 by omega), jd4]
    rfl
  · cases h
theorem jnp : jab Tryz.prog 87 E_byte := jad mix (tab := []) trivial (lp := []) (LO := LO0) ⟨Tryz.func87, by kernel_rfl, by kernel_rfl⟩ (by kernel_rfl) fun ivs res bxs h => by
  unfold E_byte at h
  split at h
  · rename_i n
    obtain ⟨hc, he⟩ := pick1 h
    cases he
    have hn := of_decide_eq_true hc
    obtain ⟨k, rfl⟩ : ∃ k : Nat, n = (k : Int) := ⟨n.toNat, by omega⟩
    refine ⟨jap (by kernel_rfl), (jpk k).trans ?_⟩
    rw [u8w, Int.toNat_natCast, UInt8.ofNat_toNat, jhX]
    rfl
  · cases h
theorem jtc : jae Tryz.prog kcb4 := ⟨jnp, trivial⟩
theorem jpX : jab Tryz.prog 88 E_short := jad mix jtc (lp := []) (LO := LO0) ⟨Tryz.func88, by kernel_rfl, by kernel_rfl⟩ (by kernel_rfl) fun ivs res bxs h => by
  unfold E_short at h
  split at h
  · rename_i s
    obtain ⟨hc, he⟩ := pick1 h
    cases he
    have hs := of_decide_eq_true hc
    refine ⟨jap (by kernel_rfl), (jmJ s).trans ?_⟩
    rw [jax, dT (show 1 + s.size ≤ 9223372036854775807 by omega), jd4]
    rfl
  · cases h
theorem jtd : jae Tryz.prog kcb5 := ⟨jrp, jmI, jkO⟩
theorem jed (s : ByteArray) (xs : List ByteArray) : (keyV2 s xs).size ≤ 300 := by
  rw [jeR]
  by_cases h : jaB s xs = true
  · rw [if_pos h, ja5]; exact jpP h
  · rw [if_neg h]; exact Nat.zero_le _
theorem jen (i : ImT) : imV i = jah (keyV2 i.name i.subs) ++ litV (kindI i) 1 ++ valsI i := jcf _
theorem jqr : jab Tryz.prog 82 E_putIm := jad mix jtd (lp := []) (LO := LO0) ⟨Tryz.func82, by kernel_rfl, by kernel_rfl⟩ (by kernel_rfl) fun ivs res bxs h => by
  unfold E_putIm at h
  split at h
  · rename_i p_i
    obtain ⟨hc, he⟩ := pick1 h
    cases he
    obtain ⟨i, rfl, h_i⟩ := jar hc
    have e_i : asIm (pIm i) = i := jdv i
    rw [e_i]
    obtain ⟨g1, g2, g3, g4⟩ := h_i
    have iL := jaq g2
    refine ⟨jap (by kernel_rfl), (jmt i).trans ?_⟩
    have zk := jed i.name i.subs
    have w1 : IntKind.wrap .i64 (0 + 1) = 1 := by decide
    have w2 : IntKind.wrap .i64 (1 + 2) = 3 := by decide
    have w3 : IntKind.wrap .i64 (0 + 2) = 2 := by decide
    rw [jen, w1, w2, w3]
    unfold kindI valsI
    cases hh : i.had <;> cases hs : i.has <;>
    · simp (disch := first | omega | rfl) only [isL, iL, jal, dT, jbn, jcn, ByteArray.size_append, jbu, jax, Bool.and_true, Bool.true_and, if_true, if_false, Bool.false_eq_true, g1, g3, g4, decide_true]
      rfl
  · cases h
theorem jq7 : jab Tryz.prog 81 E_cntIm := jad mix (tab := []) trivial (lp := []) (LO := LO0) ⟨Tryz.func81, by kernel_rfl, by kernel_rfl⟩ (by kernel_rfl) fun ivs res bxs h => by
  unfold E_cntIm at h
  split at h
  · rename_i n l
    obtain ⟨hc, he⟩ := pick1 h
    cases he
    exact ⟨jap (by kernel_rfl), jmK n l⟩
  · cases h
theorem jsP : jae Tryz.prog kcb6 := ⟨ji0, jqr, jq7, jjG, jiH, jkO⟩
theorem jfy : ∀ (l : List ImT) (p : Option ImT), jbr p l = true → ∀ i ∈ l, imgB i = true
  | [], _, _, i, hi => by cases hi
  | x :: t, p, h, i, hi => by
    unfold jbr at h
    rw [Bool.and_eq_true, Bool.and_eq_true] at h
    rcases List.mem_cons.1 hi with rfl | hi
    · exact h.1.1
    · exact jfy t (some x) h.2 i hi
theorem jbP {l : List ImT} (h : imgsB l = true) : l.length ≤ 240 ∧ ∀ i ∈ l, imgB i = true := by
  unfold imgsB at h
  rw [Bool.and_eq_true, decide_eq_true_eq] at h
  exact ⟨h.2, jfy l none h.1⟩
theorem jdI {i : ImT} (h : imgB i = true) : jaB i.name i.subs = true ∧ i.was.size ≤ 64 ∧ i.is.size ≤ 64 := by
  unfold imgB at h
  simp only [Bool.and_eq_true, decide_eq_true_eq] at h
  exact ⟨h.1.1.1.1.1, h.1.1.1.1.2, h.1.1.1.2⟩
theorem jhE {i : ImT} (h : imgB i = true) : (imV i).size ≤ 500 := by
  obtain ⟨_, h1, h2⟩ := jdI h
  have zk := jed i.name i.subs
  rw [jen, ByteArray.size_append, ByteArray.size_append, jbu, jax]
  have hv : (valsI i).size ≤ 130 := by
    unfold valsI
    rw [ByteArray.size_append]
    cases i.had <;> cases i.has <;> simp only [if_true, if_false, Bool.false_eq_true, jbu]
    · decide
    · show 0 + _ ≤ 130; omega
    · show _ + 0 ≤ 130; omega
    · omega
  omega
theorem ji2 : ∀ (l : List ImT) (s : ByteArray), (∀ i ∈ l, imgB i = true) → s.size ≤ (imsT s l).size ∧ (imsT s l).size ≤ s.size + 500 * l.length
  | [], s, _ => ⟨Nat.le_refl _, by unfold imsT; omega⟩
  | x :: t, s, h => by
    obtain ⟨h1, h2⟩ := ji2 t (s ++ imV x) fun i hi => h i (List.mem_cons_of_mem _ hi)
    have h3 := jhE (h x (List.mem_cons_self ..))
    rw [ByteArray.size_append] at h1 h2
    unfold imsT
    rw [List.length_cons]
    omega
theorem jkD (l : List ImT) (h : shIms l) (hB : imgsB l = true) : ∀ (m i : Nat) (s : ByteArray), m + i = l.length → s.size ≤ 10 + 500 * i →
    LoopsTo (rdB brC Tryz.prog kcb6 jdK jdM Tryz.f29 6 []) [aP (pIms l), aBl 3 s, aP (pIms l), aI l.length, aI i] (.exit 0, [aP (pIms l), aBl 3 (imsT s (l.drop i))]) := by
  have hl := h.1
  obtain ⟨h240, hall⟩ := jbP hB
  intro m
  induction m with
  | zero =>
    intro i s hi hs
    rw [List.drop_eq_nil_of_le (by omega)]
    refine .done _ _ ((jgi l l s i).trans ?_)
    try delta zzae0
    rw [dF (by omega)]
    rfl
  | succ m ih =>
    intro i s hi hs
    have hil : i < l.length := by omega
    have hsi := jcY h hil
    have tree := jgi l l s i
    revert tree; try delta zzae0; intro tree
    have zi := jhE (hall l[i] (List.getElem_mem hil))
    have iB : isBy (.sl s.size (jaj s)) = true := jhe (show s.size ≤ 100000000 by omega)
    have aB : asBy (.sl s.size (jaj s)) = s := jcK s
    have q1 : holds (s.size + (imV l[i]).size ≤ 100000000) = true := jag (by omega)
    rw [Int.toNat_natCast, iB, aB] at tree
    simp (disch := first | omega | rfl) only [ja4 l i hil, isIm, jf9 hsi, jdv, q1, decide_true, dT, Int.toNat_natCast, List.length_cons, List.headD_cons, List.tail_cons, List.drop_zero, List.drop_succ_cons, PV.isStr, PV.asStr, PV.isSl, PV.slN, PV.slL, PV.isInt, PV.asInt, PV.isBool, PV.asBool, ble1, ble2, ble3, ble4, ble5, ble6, blt0, wrap1, Nat.beq_refl, Bool.and_true, Bool.true_and] at tree
    have := ih (i + 1) (s ++ imV l[i]) (by omega) (by rw [ByteArray.size_append]; omega)
    rw [List.drop_eq_getElem_cons hil]
    exact .step _ _ _ tree this
theorem jeb (l : List ImT) : putI l = if imgsB l = true then imsT (litV (l.length : Int) 1) l else ⟨#[]⟩ := jcf _
theorem jok : jab Tryz.prog 29 E_putIms := jad mix jsP (lp := jdK) (LO := jdM) ⟨Tryz.func29, by kernel_rfl, by kernel_rfl⟩ (by kernel_rfl) fun ivs res bxs h => by
  unfold E_putIms at h
  split at h
  · rename_i p
    obtain ⟨hc, he⟩ := pick1 h
    cases he
    obtain ⟨l, rfl, h_l⟩ := jar hc
    have e_l : asIms (pIms l) = l := jan l
    have i_l : isIms (pIms l) = true := jaz h_l
    rw [e_l]
    refine ⟨jaw 6 (by kernel_rfl) (by kernel_rfl) (by kernel_rfl) ?_, (jkG l).trans ?_⟩
    · intro ls e ls' hl
      replace hl : pickA (jdy ls) = some (e, ls') := hl
      unfold jdy at hl
      split at hl
      · rename_i p y q e2 n2 l2 p2 m i
        obtain ⟨hc, he⟩ := pick1 hl
        cases he
        obtain ⟨hc, k10⟩ := andE hc
        obtain ⟨hc, k9⟩ := andE hc
        obtain ⟨hc, k8⟩ := andE hc
        obtain ⟨hc, k7⟩ := andE hc
        obtain ⟨hc, k6⟩ := andE hc
        obtain ⟨hc, k5⟩ := andE hc
        obtain ⟨hc, k4⟩ := andE hc
        obtain ⟨hc, k3⟩ := andE hc
        obtain ⟨hc, k2⟩ := andE hc
        obtain ⟨k0, k1⟩ := andE hc
        obtain ⟨t, rfl, h_t⟩ := jar k0
        obtain ⟨u, rfl, h_u⟩ := jar k1
        obtain ⟨s, q_s, h_s⟩ := jar k6
        injection q_s with qa qb
        subst qa
        subst qb
        have e_t : asIms (pIms t) = t := jan t
        have e_u : asIms (pIms u) = u := jan u
        have e_s : asBy (.sl s.size (jaj s)) = s := jcK s
        rw [e_t, e_u] at k2
        rw [e_u] at k7 k9 ⊢
        rw [e_s] at k10 ⊢
        have k2 := jak k2
        subst k2
        obtain rfl := nqB k3
        obtain rfl := nqB k4
        obtain rfl := nqB k5
        obtain rfl := eq_of_beq k7
        obtain rfl := eq_of_beq k8
        exact jkD t h_t k9 t.length 0 s (by omega) (by have := jak k10; omega)
      · cases hl
    · have i2 : isIms (PV.sl l.length (encIm l)) = true := i_l
      have e2 : asIms (PV.sl l.length (encIm l)) = l := e_l
      have z := jax (l.length : Int) 1
      have iB : isBy (.sl (litV (l.length : Int) 1).size (jaj (litV (l.length : Int) 1))) = true := jhe (show (litV (l.length : Int) 1).size ≤ 100000000 by omega)
      have aB : asBy (.sl (litV (l.length : Int) 1).size (jaj (litV (l.length : Int) 1))) = litV (l.length : Int) 1 := jcK _
      have q1 : holds ((litV (l.length : Int) 1).size ≤ 100000000) = true := jag (by omega)
      have q2 : holds ((litV (l.length : Int) 1).size ≤ 10) = true := jag (by omega)
      have q3 : holds (l = l) = true := jag rfl
      rw [jeb, iB, aB, i2, e2]
      rw [q1, q2, q3]
      cases hB : imgsB l with
      | false =>
        rw [if_neg Bool.false_ne_true]
        rfl
      | true =>
        obtain ⟨h240, hall⟩ := jbP hB
        obtain ⟨s1, s2⟩ := ji2 l (litV (l.length : Int) 1) hall
        have iB2 : isBy (.sl (imsT (litV (l.length : Int) 1) l).size (jaj (imsT (litV (l.length : Int) 1) l))) = true := jhe (show (imsT (litV (l.length : Int) 1) l).size ≤ 100000000 by omega)
        have aB2 : asBy (.sl (imsT (litV (l.length : Int) 1) l).size (jaj (imsT (litV (l.length : Int) 1) l))) = imsT (litV (l.length : Int) 1) l := jcK _
        rw [iB2, aB2, Nat.ble_eq_true_of_le (show 1 ≤ (imsT (litV (l.length : Int) 1) l).size by omega), if_pos rfl, beq_self_eq_true]
        rfl
  · cases h
end
section
open Go.RowKit
structure RdT where
  r : ByteArray
  b : Bool
  im : ImT
noncomputable def kName (a : ByteArray) : ByteArray := bif holds (isKy a) then (deKy a).1 else ⟨#[]⟩
noncomputable def kSubs (a : ByteArray) : List ByteArray := bif holds (isKy a) then (deKy a).2 else []
def bit (n : Int) (k : Int) : Bool := bits .and .i64 n k == k
def t1S (r : ByteArray) : ByteArray := tkS (tkR r 1) (oneV r).toNat
def t1R (r : ByteArray) : ByteArray := tkR (tkR r 1) (oneV r).toNat
def t1B (r : ByteArray) (b : Bool) : Bool := tkB (tkR r 1) (tkB r b 1) (oneV r).toNat
def r3 (r : ByteArray) : ByteArray := tkR (t1R r) 1
def b3 (r : ByteArray) (b : Bool) : Bool := tkB (t1R r) (t1B r b) 1
def flI (r : ByteArray) : Int := oneV (t1R r)
noncomputable def rd1 (r : ByteArray) (b : Bool) : RdT :=
  let had := bit (flI r) 1
  let has := bit (flI r) 2
  let r4 := bif had then t1R (r3 r) else r3 r
  let b4 := bif had then t1B (r3 r) (b3 r b) else b3 r b
  let was := bif had then t1S (r3 r) else ⟨#[]⟩
  let r5 := bif has then t1R r4 else r4
  let b5 := bif has then t1B r4 b4 else b4
  let is := bif has then t1S r4 else ⟨#[]⟩
  ⟨r5, b5, ⟨kName (t1S r), kSubs (t1S r), had, was, has, is⟩⟩
noncomputable def rdN : Nat → ByteArray → Bool → List ImT → ByteArray × Bool × List ImT
  | 0, r, b, l => (r, b, l)
  | n + 1, r, b, l => if b = true then (r, b, l) else rdN n (rd1 r b).r (rd1 r b).b (l ++ [(rd1 r b).im])
noncomputable def kdb0 : List (FuncId × Entry) := (47, E_take) :: (46, E_rone) :: (48, E_KeyPl) :: [(29, E_putIms)]
abbrev lp_gi : List (Nat × List Nat × List Nat) := [(3, [0, 4, 5, 6], [0, 4, 5]), (1000000, [15], [64]), (1000002, [65], [])]
abbrev aRd (slot : Nat) (r : ByteArray) (b : Bool) : AV × Option Ob := aBx slot (rdr r b)
abbrev aI0 (slot : Nat) : AV × Option Ob := aM slot 6 115 0 []
abbrev aIs (slot : Nat) (l : List ImT) : AV × Option Ob := (.own (4096 * slot), some (.dls 6 115 l.length (encIm l) true none))
noncomputable def jkd (ls : LS) : List (Bool × Ex × LS) := match ls with
  | [(.pv (.str s), none), (.ptr x 0, some (.box [.pv (.str r), .pv (.bool b)])), (.own y, some (.lst 6 e c l true)), (.pv (.int .i64 n), none)] =>
    [(Nat.beq x 16384 && Nat.beq y 20480 && Nat.beq e 115 && Nat.beq c 0 && nilB l && (decide (n ≤ 0) || b), .exit 0, [aS s, aRd 4 r b, aI0 5]),
     (Nat.beq x 16384 && Nat.beq y 20480 && Nat.beq e 115 && Nat.beq c 0 && nilB l && decide (0 ≤ n) && decide (n ≤ 255) && holds (r.size ≤ 2000000), .exit 0, [aS s, aRd 4 (rdN n.toNat r b []).1 (rdN n.toNat r b []).2.1, aIs 5 (rdN n.toNat r b []).2.2])]
  | _ => []
noncomputable def LO_gi : LoopT := fun k ls => bif Nat.beq k 3 then jkd ls else []
noncomputable def r_gi0 (br : Br) (s r : ByteArray) (b : Bool) (n : Int) := rdB br Tryz.prog kdb0 lp_gi LO_gi Tryz.f28 3 [] [aS s, aRd 4 r b, aI0 5, aI n]
noncomputable def r_gi (br : Br) (s r : ByteArray) (b : Bool) (l : List ImT) (n : Int) := rdB br Tryz.prog kdb0 lp_gi LO_gi Tryz.f28 3 [] [aS s, aRd 4 r b, aIs 5 l, aI n]
noncomputable def q_gi (br : Br) (s : ByteArray) := evB br Tryz.prog kdb0 lp_gi LO_gi Tryz.f28 [cS s]
def jbz (s : ByteArray) : Prop := ∃ xs : List ImT, imgsB xs = true ∧ s = putI xs
noncomputable def decI (s : ByteArray) : List ImT := @Classical.epsilon _ ⟨[]⟩ fun xs : List ImT => imgsB xs = true ∧ s = putI xs
noncomputable def E_gi : Entry := fun ivs => match ivs with
  | [.cv (.pv (.str s))] =>
    [(decide (s.size ≤ 2000000) && holds (jbz s) && Nat.beq (decI s).length 0, .tup [.cv (.lst 6 115 0 [] true), cB true], []),
     (decide (s.size ≤ 2000000) && holds (jbz s), .tup [.cv (.dls 6 115 (decI s).length (encIm (decI s))), cB true], []),
     (decide (s.size ≤ 2000000), .tup [cP .nils, cB false], [])]
  | _ => []
end
end Go.Proofs.YtobhacnimkccmaaGreatDoor
