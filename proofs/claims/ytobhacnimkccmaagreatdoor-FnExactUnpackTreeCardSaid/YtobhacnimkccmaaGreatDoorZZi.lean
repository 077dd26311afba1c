import Derived.Test.YtobhacnimkccmaaGreatDoorZZh
import Derived.Test.YtobhacnimkccmaaGreatDoorZZg
import Derived.Test.YtobhacnimkccmaaGreatDoorZZe
import Derived.Lib.Builder
import Derived.Lib.UnsafeStr
import Derived.Test.YtobhacnimkccmaaGreatDoorZZf
namespace Go.Proofs.YtobhacnimkccmaaGreatDoor
set_option linter.unusedVariables false
set_option linter.unusedSimpArgs false
set_option maxRecDepth 100000
section
open Go.RowKit
theorem jkI : jac Tryz.prog 244 E_l01Canon := ⟨⟨_, Tryz.func244, by kernel_rfl, by kernel_rfl⟩, fun ivs res bxs h => by
  unfold E_l01Canon at h
  split at h
  · rename_i s
    obtain ⟨hc, he⟩ := pick1 h
    cases he
    have hc := of_decide_eq_true hc
    refine jaY (ps := [.str s]) (v := .bool (jap s.data.toList)) rfl fun w com vals hv _ => ?_
    obtain ⟨v, vs, rfl, hv1, hn⟩ := hv.of_cons
    rw [hn.of_nil]
    cases hv1
    exact jcv s w (by omega)
  · cases h⟩
theorem jp0 : jac Tryz.prog 245 E_l01Of := ⟨⟨_, Tryz.func245, by kernel_rfl, by kernel_rfl⟩, fun ivs res bxs h => by
  unfold E_l01Of at h
  split at h
  · rename_i s
    obtain ⟨hc, he⟩ := pick1 h
    cases he
    have hc := of_decide_eq_true hc
    refine jaY (ps := [.str s]) (v := .int .i64 (numOf s.data.toList)) rfl fun w com vals hv _ => ?_
    obtain ⟨v, vs, rfl, hv1, hn⟩ := hv.of_cons
    rw [hn.of_nil]
    cases hv1
    refine (jdJ s w (by omega)).mono ?_
    rintro e w' ⟨rfl, rfl⟩
    exact ⟨rfl, Below.refl _ _⟩
  · cases h⟩
theorem jrI : jaf Tryz.prog kbb0 := ⟨jkI, jp0, trivial⟩
theorem jo5 (n : Nat) : keyH n = 1 :: beK 8 n := jhT _
theorem u8m (n : Nat) : UInt8.ofNat (n % 256) = UInt8.ofNat n := by
  apply UInt8.toNat_inj.1
  simp
theorem jq0 (n k : Nat) (hk : k ≤ 7) : IntKind.wrap .u8 (Int.fdiv (n : Int) (2 ^ min (Int.toNat (IntKind.wrap .i64 (8 * (k : Int)))) 64)) = (((UInt8.ofNat (n / 256 ^ k % 256)).toNat : Nat) : Int) := by
  have e : min (Int.toNat (IntKind.wrap .i64 (8 * (k : Int)))) 64 = 8 * k := by rw [wrapI (by omega) (by omega)]; omega
  have p : (2 : Int) ^ (8 * k) = ((256 ^ k : Nat) : Int) := by
    rw [show (256 : Nat) = 2 ^ 8 from rfl, ← Nat.pow_mul]
    push_cast
    rfl
  rw [e, p, u8m, Int.fdiv_eq_ediv_of_nonneg _ (Int.natCast_nonneg _), ← Int.natCast_ediv, u8w]
theorem jnr (s : ByteArray) (n : Nat) : ∀ (k : Nat) (l : List UInt8), k ≤ 8 → l.length ≤ 10 - k → LoopsTo (rdB brC Tryz.prog kbb0 jgw jgT Tryz.f213 6 []) [aS s, oB 3 (pvB l), aI n, aI ((k : Int) - 1)] (.exit 0, [aS s, oB 3 (pvB (l ++ beK k n))]) := by
  intro k
  induction k with
  | zero =>
    intro l h1 h2
    refine .done _ _ ((jil _ _ _ _).trans ?_)
    rw [dF (by omega), show beK 0 n = [] from rfl, List.append_nil]
    rfl
  | succ k ih =>
    intro l h1 h2
    have tree := jil s l (n : Int) (((k + 1 : Nat) : Int) - 1)
    rw [show (((k + 1 : Nat) : Int) - 1) = (k : Int) by omega] at tree ⊢
    have w0 : IntKind.wrap .i64 (8 * (k : Int)) = 8 * (k : Int) := wrapI (by omega) (by omega)
    have w1 : IntKind.wrap .i64 ((k : Int) - 1) = (k : Int) - 1 := wrapI (by omega) (by omega)
    generalize hc : UInt8.ofNat (n / 256 ^ k % 256) = c
    have e0 := jq0 n k (by omega)
    rw [hc] at e0
    have e1 : pvB l ++ [PV.int .u8 ((c.toNat : Nat) : Int)] = pvB (l ++ [c]) := (jb2 l [c]).symm
    have e2 : (pvB l).length + 1 = (pvB (l ++ [c])).length := by rw [jb2, List.length_append]; rfl
    have e3 : (pvB (l ++ [c])).length = l.length + 1 := by rw [jcC, List.length_append]; rfl
    rw [e0, w1, e1, e2, w0] at tree
    simp (disch := omega) only [dT, Bool.and_true, show Nat.beq (List.length [PV.int IntKind.u8 ((c.toNat : Nat) : Int)]) (1 * 1) = true from rfl] at tree
    have := ih (l ++ [c]) (by omega) (by rw [List.length_append]; simp only [List.length_singleton]; omega)
    rw [List.append_assoc, show [c] ++ beK k n = beK (k + 1) n by rw [← hc]; rfl] at this
    exact .step _ _ _ tree this
theorem jml (s : ByteArray) (hs : s.size ≤ 1000000) : ∀ (m i : Nat) (l : List UInt8), m + i = s.data.toList.length → l.length ≤ 2 * i + 1 → LoopsTo (rdB brC Tryz.prog kbb0 jgw jgT Tryz.f213 12 []) [aS s, oB 3 (pvB l), aI i] (.exit 2, [aS s, oB 3 (pvB (l ++ escS (s.data.toList.drop i)))]) := by
  have hl : s.size = s.data.toList.length := jab s
  intro m
  induction m with
  | zero =>
    intro i l h1 h2
    refine .done _ _ ((jgt _ _ _).trans ?_)
    rw [dF (by omega), List.drop_eq_nil_of_le (by omega), show escS [] = [] from rfl, List.append_nil]
    rfl
  | succ m ih =>
    intro i l h1 h2
    have hi : i < s.data.toList.length := by omega
    have tree := jgt s l i
    have hg : s.data.toList.getD i 0 = s.data.toList[i] := by rw [List.getD_eq_getElem?_getD, List.getElem?_eq_getElem hi]; rfl
    have hd : s.data.toList.drop i = s.data.toList[i] :: s.data.toList.drop (i + 1) := List.drop_eq_getElem_cons hi
    generalize hc : s.data.toList[i] = c at hg hd
    have w1 : IntKind.wrap .i64 ((i : Int) + 1) = ((i + 1 : Nat) : Int) := by rw [wrapI (by omega) (by omega)]; omega
    have e1 : pvB l ++ [PV.int .u8 ((c.toNat : Nat) : Int)] = pvB (l ++ [c]) := (jb2 l [c]).symm
    have e2 : (pvB l).length + 1 = (pvB (l ++ [c])).length := by rw [jb2, List.length_append]; rfl
    have e3 : (pvB (l ++ [c])).length = l.length + 1 := by rw [jcC, List.length_append]; rfl
    have e4 : pvB (l ++ [c]) ++ [PV.int .u8 255] = pvB (l ++ [c] ++ [255]) := (jb2 (l ++ [c]) [255]).symm
    have e5 : (pvB (l ++ [c])).length + 1 = (pvB (l ++ [c] ++ [255])).length := by rw [jb2 (l ++ [c]), List.length_append]; rfl
    rw [Int.toNat_natCast, hg, w1, e1, e2, e4, e5] at tree
    have e6 : (pvB (l ++ [c] ++ [255])).length = l.length + 2 := by rw [← e5, e3]
    simp (disch := omega) only [dT, Bool.and_true, Bool.true_and, Nat.beq_refl, show Nat.beq (List.length [PV.int IntKind.u8 ((c.toNat : Nat) : Int)]) (1 * 1) = true from rfl] at tree
    rw [hd]
    unfold escS
    by_cases h0 : c = 0
    · rw [if_pos h0]
      rw [show (((c.toNat : Nat) : Int) == 0) = true by rw [h0]; rfl] at tree
      have := ih (i + 1) (l ++ [c] ++ [255]) (by omega) (by simp only [List.length_append, List.length_singleton]; omega)
      rw [show l ++ [c] ++ [255] ++ escS (List.drop (i + 1) s.data.toList) = l ++ 0 :: 255 :: escS (List.drop (i + 1) s.data.toList) by rw [h0]; simp] at this
      exact .step _ _ _ tree this
    · rw [if_neg h0]
      rw [show (((c.toNat : Nat) : Int) == 0) = false from beq_eq_false_iff_ne.2 fun e => h0 (UInt8.toNat_inj.1 (by show c.toNat = 0; omega))] at tree
      have := ih (i + 1) (l ++ [c]) (by omega) (by simp only [List.length_append, List.length_singleton]; omega)
      rw [show l ++ [c] ++ escS (List.drop (i + 1) s.data.toList) = l ++ c :: escS (List.drop (i + 1) s.data.toList) by simp] at this
      exact .step _ _ _ tree this
theorem jtj : jac Tryz.prog 213 E_key := jad mix jrI (lp := jgw) (LO := jgT) ⟨Tryz.func213, by kernel_rfl, by kernel_rfl⟩ (by kernel_rfl) fun ivs res bxs h => by
  unfold E_key at h
  split at h
  · rename_i s
    obtain ⟨hc, he⟩ := pick1 h
    cases he
    have hs := of_decide_eq_true hc
    have hl : s.size = s.data.toList.length := jab s
    refine ⟨jnn [6, 12] (by kernel_rfl) (fun k hk => by
      simp only [List.mem_cons, List.not_mem_nil, or_false] at hk
      rcases hk with rfl | rfl <;> kernel_rfl) fun k hk => ?_, (jpU s).trans ?_⟩
    · simp only [List.mem_cons, List.not_mem_nil, or_false] at hk
      rcases hk with rfl | rfl
      · refine ⟨jar (by kernel_rfl), ?_⟩
        intro ls e ls' hl
        replace hl : pickA (jhy ls) = some (e, ls') := hl
        unfold jhy at hl
        split at hl
        · rename_i s x e c l n k
          obtain ⟨hc, he⟩ := pick1 hl
          cases he
          obtain ⟨hc, g6⟩ := andE hc
          obtain ⟨hc, g5⟩ := andE hc
          obtain ⟨hc, g4⟩ := andE hc
          obtain ⟨hc, g3⟩ := andE hc
          obtain ⟨hc, g2⟩ := andE hc
          obtain ⟨g0, g1⟩ := andE hc
          have g0 := of_decide_eq_true g0
          rw [nqB g2, nqB g3, nqB g4, jai g5, eq_of_beq g6, jo5]
          have := jnr s n.toNat 8 [1] (by omega) (by decide)
          rw [show ((n.toNat : Nat) : Int) = n by omega] at this
          exact this
        · cases hl
      · refine ⟨jar (by kernel_rfl), ?_⟩
        intro ls e ls' hl
        replace hl : pickA (jfv ls) = some (e, ls') := hl
        unfold jfv at hl
        split at hl
        · rename_i s x e c l i
          obtain ⟨hc, he⟩ := pick1 hl
          cases he
          obtain ⟨hc, g6⟩ := andE hc
          obtain ⟨hc, g5⟩ := andE hc
          obtain ⟨hc, g4⟩ := andE hc
          obtain ⟨hc, g3⟩ := andE hc
          obtain ⟨g0, g2⟩ := andE hc
          rw [nqB g2, nqB g3, nqB g4, jai g5, eq_of_beq g6, jhT]
          exact jml s (of_decide_eq_true g0) s.data.toList.length 0 [2] rfl (by decide)
        · cases hl
    · have hr := jaV s.data.toList
      have w1 : IntKind.wrap .i64 (numOf s.data.toList + 1000000000000000000) = numOf s.data.toList + 1000000000000000000 := wrapI (by omega) (by omega)
      have f1 : holds ([PV.int IntKind.u8 1] = [PV.int IntKind.u8 ((1 : Nat) : Int)]) = true := jag rfl
      have f2 : holds ([PV.int IntKind.u8 2] = [PV.int IntKind.u8 ((2 : Nat) : Int)]) = true := jag rfl
      have f3 : holds (numOf s.data.toList + 1000000000000000000 ≤ 2000000000000000000) = true := jag (by omega)
      have eb : pvB (hidL (2 :: escS s.data.toList)) ++ [PV.int IntKind.u8 0, PV.int IntKind.u8 0] = pvB (2 :: escS s.data.toList ++ [0, 0]) := by rw [jhT]; exact (jb2 _ [0, 0]).symm
      have el : (pvB (hidL (2 :: escS s.data.toList))).length + 2 = (pvB (2 :: escS s.data.toList ++ [0, 0])).length := by rw [jhT, jcC, jcC, List.length_append]; rfl
      have es := jeZ s.data.toList
      have el2 : (pvB (2 :: escS s.data.toList ++ [0, 0])).length = (escS s.data.toList).length + 3 := by rw [jcC, List.length_append]; rfl
      rw [w1, f3, jo5, eb, el]
      cases hcn : jap s.data.toList with
      | true =>
        simp (disch := omega) only [dT, f1, Bool.and_true, Bool.true_and, Nat.beq_refl, beq_self_eq_true, jbt, Option.isSome_some, Option.getD_some, show holds True = true from jag trivial]
        have : encS s.data.toList = 1 :: beK 8 (numOf s.data.toList + 1000000000000000000).toNat := by unfold encS; rw [if_pos hcn]
        rw [this]
        rfl
      | false =>
        simp (disch := omega) only [dT, f2, Bool.and_true, Bool.true_and, Nat.beq_refl, beq_self_eq_true, jbt, Option.isSome_some, Option.getD_some, show holds True = true from jag trivial]
        have : encS s.data.toList = 2 :: (escS s.data.toList ++ [0, 0]) := by unfold encS; rw [if_neg (by rw [hcn]; exact Bool.false_ne_true)]
        rw [this]
        rfl
  · cases h
theorem jrR : jaf Tryz.prog kbb1 := ⟨jtj, trivial⟩
theorem jfg (a b : List UInt8) : bs a ++ bs b = bs (a ++ b) := by
  apply ByteArray.ext
  apply Array.ext'
  show (bs a ++ bs b).data.toList = _
  rw [ByteArray.data_append, Array.toList_append, jaC, jaC]
  exact (jaC _).symm
theorem jpQ (xs : List ByteArray) (h4 : xs.length ≤ 4) (h24 : ∀ s ∈ xs, s.size ≤ 24) : ∀ (m i : Nat), m + i = xs.length → LoopsTo (rdB brC Tryz.prog kbb1 jl4 jly Tryz.f163 3 []) [aP (pL xs), aS (bs (encL (xs.take i))), aI i] (.exit 0, [aP (pL xs), aS (bs (encL xs))]) := by
  intro m
  induction m with
  | zero =>
    intro i hm
    refine .done _ _ ((jla xs _ _).trans ?_)
    rw [dF (by omega), List.take_of_length_le (by omega)]
    rfl
  | succ m ih =>
    intro i hm
    have hi : i < xs.length := by omega
    have hz := h24 _ (List.getElem_mem hi)
    have tree := jla xs (bs (encL (xs.take i))) i
    have ih' := ih (i + 1) (by omega)
    have e1 := jdy (xs.take i) fun s hs => h24 s (List.mem_of_mem_take hs)
    rw [List.length_take] at e1
    have e2 := jld xs[i].data.toList
    rw [← jab] at e2
    have e3 : (bs (encL (xs.take i))).size = (encL (xs.take i)).length := ja5 _
    have e4 : (bs (encS xs[i].data.toList)).size = (encS xs[i].data.toList).length := ja5 _
    have e5 : bs (encL (xs.take i)) ++ bs (encS xs[i].data.toList) = bs (encL (xs.take (i + 1))) := by
      rw [jfg, List.take_succ_eq_append_getElem hi, jk3]
      congr 2
      show _ = encS _ ++ []
      rw [List.append_nil]
    simp (disch := omega) only [dT, Int.toNat_natCast, jaO xs i hi, List.length_cons, List.headD_cons, PV.isStr, PV.asStr, blt0, wrap1, e5, Bool.and_true] at tree
    exact .step _ _ _ tree ih'
theorem jb4 {t : ByteArray} (h : t.size = 0) : t = ⟨#[]⟩ := by
  have : t.data.toList = [] := List.length_eq_zero_iff.1 (by rw [← jab]; exact h)
  rw [← jaK t, this]
  rfl
theorem jrd : jac Tryz.prog 163 E_put := jad mix jrR (lp := jl4) (LO := jly) ⟨Tryz.func163, by kernel_rfl, by kernel_rfl⟩ (by kernel_rfl) fun ivs res bxs h => by
  unfold E_put at h
  split at h
  · rename_i p
    obtain ⟨hc, he⟩ := pick1 h
    cases he
    obtain ⟨k0, k1⟩ := andE hc
    obtain ⟨xs, rfl, hx⟩ := jan k0
    have ea : asL (pL xs) = xs := jam xs
    rw [ea] at k1 ⊢
    refine ⟨jav 3 (by kernel_rfl) (by kernel_rfl) (by kernel_rfl) ?_, (jqG xs).trans ?_⟩
    · intro ls e ls' hl
      replace hl : pickA (jhX ls) = some (e, ls') := hl
      unfold jhX at hl
      split at hl
      · rename_i p t i
        obtain ⟨hc, he⟩ := pick1 hl
        cases he
        obtain ⟨hc, g3⟩ := andE hc
        obtain ⟨hc, g2⟩ := andE hc
        obtain ⟨g0, g1⟩ := andE hc
        obtain ⟨ys, rfl, hy⟩ := jan g0
        have ey : asL (pL ys) = ys := jam ys
        rw [ey] at g1 ⊢
        obtain ⟨hy4, hy24⟩ := jbv g1
        rw [jb4 (nqB g2), eq_of_beq g3]
        exact jpQ ys hy4 hy24 ys.length 0 rfl
      · cases hl
    · have e1 : isL (pL xs) = true := jaq hx
      rw [ea, e1, k1]
      rfl
  · cases h
theorem jrN : jaf Tryz.prog kbb2 := ⟨jrd, jd9, trivial⟩
theorem jkd : jac Tryz.prog 148 E_SPutSubs := jad mix jrN (lp := []) (LO := LO0) ⟨Tryz.func148, by kernel_rfl, by kernel_rfl⟩ (by kernel_rfl) fun ivs res bxs h => by
  unfold E_SPutSubs at h
  split at h
  · rename_i p
    obtain ⟨hc, he⟩ := pick1 h
    cases he
    obtain ⟨xs, rfl, hx⟩ := jan hc
    have ea : asL (pL xs) = xs := jam xs
    rw [ea]
    have e1 := jaq hx
    have e2 := jam xs
    refine ⟨jar (by kernel_rfl), (jg1 xs).trans ?_⟩
    unfold putL
    cases hB : subsB xs with
    | true =>
      simp only [isL, e1, jam, hB, Bool.and_true, if_true]
      rfl
    | false =>
      simp only [isL, e1, jam, hB, Bool.and_true, Bool.false_eq_true, if_false]
      rfl
  · cases h
theorem or8w (m b : Nat) (hb : b < 256) (hm : m < 72057594037927936) : bits .or .i64 (IntKind.wrap .i64 (((m * 256 : Nat) : Int))) ((b : Nat) : Int) = IntKind.wrap .i64 ((m * 256 + b : Nat) : Int) := by
  have h1 : (BitVec.ofInt 64 (IntKind.wrap .i64 ((m * 256 : Nat) : Int))).toNat = m * 256 := by
    rw [BitVec.toNat_ofInt, IntKind.wrap_i64]
    omega
  have h2 : (BitVec.ofInt 64 (b : Int)).toNat = b := by rw [BitVec.ofInt_natCast, BitVec.toNat_ofNat]; exact Nat.mod_eq_of_lt (by omega)
  show IntKind.i64.wrap ((BitVec.ofInt 64 (IntKind.wrap .i64 ((m * 256 : Nat) : Int)) ||| BitVec.ofInt 64 (b : Int)).toNat : Int) = _
  have h3 := Nat.two_pow_add_eq_or_of_lt (i := 8) (b := b) (by omega) m
  rw [BitVec.toNat_or, h1, h2, Nat.mul_comm m 256, show (256 : Nat) * m ||| b = 256 * m + b from h3.symm]
theorem jkA (s : ByteArray) (hs : s.data.toList.length = 8) : ∀ (m i : Nat), m + i = 8 → LoopsTo (rdB brC Tryz.prog [] jdT jd0 Tryz.f210 3 []) [aS s, aI (beW (s.data.toList.take i)), aI i] (.exit 0, [aS s, aI (beW s.data.toList)]) := by
  have hl : s.size = s.data.toList.length := jab s
  intro m
  induction m with
  | zero =>
    intro i hm
    refine .done _ _ ((jfz s _ _).trans ?_)
    rw [dF (by omega), List.take_of_length_le (by omega)]
    rfl
  | succ m ih =>
    intro i hm
    have ih' := ih (i + 1) (by omega)
    have hi : i < s.data.toList.length := by omega
    have tree := jfz s (beW (s.data.toList.take i)) i
    have hb := jre (s.data.toList.take i) i (by rw [List.length_take]; omega)
    have hp : 256 ^ i ≤ 256 ^ 7 := Nat.pow_le_pow_right (by decide) (by omega)
    have big : (256 : Nat) ^ 7 = 72057594037927936 := by decide
    have hc := UInt8.toNat_lt s.data.toList[i]
    have hg : s.data.toList.getD i 0 = s.data.toList[i] := by rw [List.getD_eq_getElem?_getD, List.getElem?_eq_getElem hi]; rfl
    have e1 : beW (s.data.toList.take i) = ((beV (s.data.toList.take i) : Nat) : Int) := wrapI (by omega) (by omega)
    have e2 : ((beV (s.data.toList.take i) : Nat) : Int) * 2 ^ 8 = ((beV (s.data.toList.take i) * 256 : Nat) : Int) := by
      rw [show (2 : Int) ^ 8 = 256 from rfl]
      omega
    have e3 : IntKind.wrap .i64 ((s.data.toList[i].toNat : Nat) : Int) = ((s.data.toList[i].toNat : Nat) : Int) := wrapI (by omega) (by omega)
    have e4 : bits .or .i64 (IntKind.wrap .i64 ((beV (s.data.toList.take i) * 256 : Nat) : Int)) ((s.data.toList[i].toNat : Nat) : Int) = beW (s.data.toList.take (i + 1)) := by
      rw [or8w _ _ hc (by omega), List.take_succ_eq_append_getElem hi]
      unfold beW
      rw [jhR]
    rw [e1, e2, Int.toNat_natCast, hg, e3, e4] at tree
    simp (disch := omega) only [dT, wrap1, Bool.and_true] at tree
    rw [e1]
    exact .step _ _ _ tree ih'
theorem jnN : jac Tryz.prog 210 E_l02Num := jad mix (tab := []) trivial (lp := jdT) (LO := jd0) ⟨Tryz.func210, by kernel_rfl, by kernel_rfl⟩ (by kernel_rfl) fun ivs res bxs h => by
  unfold E_l02Num at h
  split at h
  · rename_i s
    obtain ⟨hc, he⟩ := pick1 h
    cases he
    refine ⟨jav 3 (by kernel_rfl) (by kernel_rfl) (by kernel_rfl) ?_, (jj2 s).trans ?_⟩
    · intro ls e ls' hl
      replace hl : pickA (jdu ls) = some (e, ls') := hl
      unfold jdu at hl
      split at hl
      · rename_i s n i
        obtain ⟨hc, he⟩ := pick1 hl
        cases he
        obtain ⟨hc, g2⟩ := andE hc
        obtain ⟨g0, g1⟩ := andE hc
        rw [eq_of_beq g1, eq_of_beq g2]
        have := jkA s (by rw [← jab]; exact of_decide_eq_true g0) 8 0 rfl
        exact this
      · cases hl
    · rw [hc]
      rfl
  · cases h
theorem jse : jaf Tryz.prog kbb3 := ⟨jnN, ok_In, jm8, trivial⟩
noncomputable abbrev tkR0 (s : ByteArray) (l d : List UInt8) : Ex × LS := match unesc d with
  | some p => (.ret, [aS s, aS (bs (l ++ p.1)), aS (bs p.2), aB true])
  | none => if un2 d = true then (.ret, [aS s, aS ⟨#[]⟩, aS ⟨#[]⟩, aB false]) else (.exit 0, [aS s, aX, aX, aX])
theorem jrO (s : ByteArray) (hs : s.size ≤ 2000) : ∀ (m i : Nat) (l : List UInt8), s.size + 1 ≤ m + i → l.length ≤ i → i ≤ s.size + 1 → LoopsTo (rdB brC Tryz.prog kbb3 lp_tk LO_tk Tryz.f161 10 []) [aS s, oB 6 (pvB l), aI i] (tkR0 s l (s.data.toList.drop i)) := by
  have hl : s.size = s.data.toList.length := jab s
  intro m
  induction m with
  | zero =>
    intro i l h1 h2 h3
    refine .done _ _ ((jnz _ _ _).trans ?_)
    have w1 : IntKind.wrap .i64 ((i : Int) + 1) = ((i + 1 : Nat) : Int) := by rw [wrapI (by omega) (by omega)]; omega
    rw [w1, dF (by omega), List.drop_eq_nil_of_le (by omega)]
    rfl
  | succ m ih =>
    intro i l h1 h2 h3
    have tree := jnz s l i
    have w1 : IntKind.wrap .i64 ((i : Int) + 1) = ((i + 1 : Nat) : Int) := by rw [wrapI (by omega) (by omega)]; omega
    have w2 : IntKind.wrap .i64 (((i + 1 : Nat) : Int) + 1) = ((i + 2 : Nat) : Int) := by rw [wrapI (by omega) (by omega)]; omega
    have w3 : IntKind.wrap .i64 ((i : Int) + 2) = ((i + 2 : Nat) : Int) := by rw [wrapI (by omega) (by omega)]; omega
    rw [w1, w2, w3] at tree
    by_cases hi : i + 1 < s.data.toList.length
    · have hg : s.data.toList.getD i 0 = s.data.toList[i]'(by omega) := by rw [List.getD_eq_getElem?_getD, List.getElem?_eq_getElem (by omega)]; rfl
      have hg1 : s.data.toList.getD (i + 1) 0 = s.data.toList[i + 1] := by rw [List.getD_eq_getElem?_getD, List.getElem?_eq_getElem hi]; rfl
      have hd : s.data.toList.drop i = s.data.toList[i]'(by omega) :: s.data.toList.drop (i + 1) := List.drop_eq_getElem_cons (by omega)
      have hd1 : s.data.toList.drop (i + 1) = s.data.toList[i + 1] :: s.data.toList.drop (i + 2) := List.drop_eq_getElem_cons hi
      generalize hc : s.data.toList[i]'(by omega) = c at hg hd
      generalize he : s.data.toList[i + 1] = e at hg1 hd1
      have hx : s.extract (i + 2) s.size = bs (s.data.toList.drop (i + 2)) := by
        rw [jbr, List.take_of_length_le (by rw [List.length_drop]; omega)]
      have e1 : ∀ c : UInt8, pvB l ++ [PV.int .u8 ((c.toNat : Nat) : Int)] = pvB (l ++ [c]) := fun c => (jb2 l [c]).symm
      have e2 : ∀ c : UInt8, (pvB (l ++ [c])).length = l.length + 1 := fun c => by rw [jcC, List.length_append]; rfl
      have e3 : (pvB l).length = l.length := jcC l
      have e4 : pvB l ++ [PV.int .u8 0] = pvB (l ++ [0]) := e1 0
      have e5 : ({ data := List.toArray l } : ByteArray) = bs l := rfl
      rw [dT (show (((i + 1 : Nat) : Int) < (s.size : Int)) by omega), Int.toNat_natCast, Int.toNat_natCast, hg, hg1, e1, e4, jbt] at tree
      simp (disch := omega) only [dT, Int.toNat_natCast, hx, e3, Option.getD_some, Option.isSome_some, Nat.beq_refl, Bool.and_true, show Nat.beq (List.length [PV.int IntKind.u8 ((c.toNat : Nat) : Int)]) (1 * 1) = true from rfl] at tree
      by_cases h0 : c = 0
      · rw [show (((c.toNat : Nat) : Int) != 0) = false by rw [h0]; rfl] at tree
        by_cases h00 : e = 0
        · rw [show (((e.toNat : Nat) : Int) == 0) = true by rw [h00]; rfl] at tree
          have hu : unesc (s.data.toList.drop i) = some ([], s.data.toList.drop (i + 2)) := by
            rw [hd, hd1, h0, h00]
            unfold unesc
            rw [if_pos rfl, if_pos rfl]
          unfold tkR0
          rw [hu]
          dsimp only
          rw [List.append_nil]
          exact .done _ _ tree
        · rw [show (((e.toNat : Nat) : Int) == 0) = false from beq_eq_false_iff_ne.2 fun h => h00 (UInt8.toNat_inj.1 (by show e.toNat = 0; omega))] at tree
          by_cases h255 : e = 255
          · rw [show (((e.toNat : Nat) : Int) != 255) = false by rw [h255]; rfl] at tree
            have hu : unesc (s.data.toList.drop i) = (unesc (s.data.toList.drop (i + 2))).map (fun p => (0 :: p.1, p.2)) := by
              rw [hd, hd1, h0, h255]
              conv => lhs; unfold unesc
              rw [if_pos rfl, if_neg (by decide), if_pos rfl]
            have hn : un2 (s.data.toList.drop i) = un2 (s.data.toList.drop (i + 2)) := by
              rw [hd, hd1, h0, h255]
              conv => lhs; unfold un2
              rw [if_pos rfl, if_neg (by decide), if_pos rfl]
            have := ih (i + 2) (l ++ [0]) (by omega) (by rw [List.length_append]; simp only [List.length_singleton]; omega) (by omega)
            have er : tkR0 s (l ++ [0]) (s.data.toList.drop (i + 2)) = tkR0 s l (s.data.toList.drop i) := by
              unfold tkR0
              rw [hu, hn]
              cases unesc (s.data.toList.drop (i + 2)) with
              | none => rfl
              | some p =>
                dsimp only [Option.map_some]
                rw [List.append_assoc]
                rfl
            rw [← er]
            have e6 := e2 0
            rw [← e6] at tree
            exact .step _ _ _ tree this
          · rw [show (((e.toNat : Nat) : Int) != 255) = true from bne_iff_ne.2 fun h => h255 (UInt8.toNat_inj.1 (by show e.toNat = 255; omega))] at tree
            have hu : unesc (s.data.toList.drop i) = none := by
              rw [hd, hd1, h0]
              unfold unesc
              rw [if_pos rfl, if_neg h00, if_neg h255]
            have hn : un2 (s.data.toList.drop i) = true := by
              rw [hd, hd1, h0]
              unfold un2
              rw [if_pos rfl, if_neg h00, if_neg h255]
            unfold tkR0
            rw [hu, hn]
            exact .done _ _ tree
      · rw [show (((c.toNat : Nat) : Int) != 0) = true from bne_iff_ne.2 fun h => h0 (UInt8.toNat_inj.1 (by show c.toNat = 0; omega))] at tree
        have hu : unesc (s.data.toList.drop i) = (unesc (s.data.toList.drop (i + 1))).map (fun p => (c :: p.1, p.2)) := by
          rw [hd, hd1]
          conv => lhs; unfold unesc
          rw [if_neg h0]
        have hn : un2 (s.data.toList.drop i) = un2 (s.data.toList.drop (i + 1)) := by
          rw [hd, hd1]
          conv => lhs; unfold un2
          rw [if_neg h0]
        have := ih (i + 1) (l ++ [c]) (by omega) (by rw [List.length_append]; simp only [List.length_singleton]; omega) (by omega)
        have er : tkR0 s (l ++ [c]) (s.data.toList.drop (i + 1)) = tkR0 s l (s.data.toList.drop i) := by
          unfold tkR0
          rw [hu, hn]
          cases unesc (s.data.toList.drop (i + 1)) with
          | none => rfl
          | some p =>
            dsimp only [Option.map_some]
            rw [List.append_assoc]
            rfl
        rw [← er]
        have e6 := e2 c
        rw [← e6] at tree
        exact .step _ _ _ tree this
    · rw [dF (by omega)] at tree
      have hlen : (s.data.toList.drop i).length ≤ 1 := by rw [List.length_drop]; omega
      have hu : unesc (s.data.toList.drop i) = none ∧ un2 (s.data.toList.drop i) = false := by
        cases hd : s.data.toList.drop i with
        | nil => exact ⟨rfl, rfl⟩
        | cons c t =>
          rw [hd] at hlen
          have : t = [] := List.length_eq_zero_iff.1 (by rw [List.length_cons] at hlen; omega)
          subst this
          exact ⟨rfl, rfl⟩
      unfold tkR0
      rw [hu.1, hu.2]
      exact .done _ _ tree
theorem jtu {l : List UInt8} (h : un2 l = true) : unesc l = none := by
  induction l using un2.induct with
  | case1 => cases h
  | case2 => cases h
  | case3 r => unfold un2 at h; rw [if_pos rfl, if_pos rfl] at h; cases h
  | case4 r h0 ih =>
    unfold un2 at h
    rw [if_pos rfl, if_neg h0, if_pos rfl] at h
    unfold unesc
    rw [if_pos rfl, if_neg h0, if_pos rfl, ih h]
    rfl
  | case5 d r h0 h1 =>
    unfold unesc
    rw [if_pos rfl, if_neg h0, if_neg h1]
  | case6 c d r h0 ih =>
    unfold un2 at h
    rw [if_neg h0] at h
    unfold unesc
    rw [if_neg h0, ih h]
    rfl
theorem ok_tk : jac Tryz.prog 161 E_tk := jad mix jse (lp := lp_tk) (LO := LO_tk) ⟨Tryz.func161, by kernel_rfl, by kernel_rfl⟩ (by kernel_rfl) fun ivs res bxs h => by
  unfold E_tk at h
  split at h
  · rename_i s
    obtain ⟨hc, he⟩ := pick1 h
    cases he
    obtain ⟨k0, k1⟩ := andE hc
    have h0 := of_decide_eq_true k0
    have hs := of_decide_eq_true k1
    have hl : s.size = s.data.toList.length := jab s
    refine ⟨jav 10 (by kernel_rfl) (by kernel_rfl) (by kernel_rfl) ?_, (jr2 s).trans ?_⟩
    · intro ls e ls' hl
      replace hl : pickA (jhz ls) = some (e, ls') := hl
      unfold jhz at hl
      split at hl
      · rename_i s x e c l i
        have key : (decide (s.size ≤ 2000) && Nat.beq x 24576 && Nat.beq e 5 && Nat.beq c 0 && nilB l && (i == 1)) = true → LoopsTo (rdB brC Tryz.prog kbb3 lp_tk LO_tk Tryz.f161 10 []) [aS s, (.own x, some (.lst 1 e c l false)), aI i] (tkR0 s [] (s.data.toList.drop 1)) := fun hc => by
          obtain ⟨hc, g5⟩ := andE hc
          obtain ⟨hc, g4⟩ := andE hc
          obtain ⟨hc, g3⟩ := andE hc
          obtain ⟨hc, g2⟩ := andE hc
          obtain ⟨g0, g1⟩ := andE hc
          rw [nqB g1, nqB g2, nqB g3, jbl g4, eq_of_beq g5]
          exact jrO s (of_decide_eq_true g0) s.size 1 [] (by omega) (by decide) (by omega)
        rcases jrm hl with ⟨hc, he⟩ | ⟨hn, hc, he⟩ | ⟨hn, hn2, hc, he⟩
        · cases he
          obtain ⟨hc, g⟩ := andE hc
          have k := key hc
          unfold gsO at g
          rw [jaC] at g
          obtain ⟨p, hp⟩ := Option.isSome_iff_exists.1 g
          unfold tkR0 at k
          rw [hp] at k
          have eT : gsT (bs (s.data.toList.drop 1)) = bs p.1 := by unfold gsT; rw [jaC, hp]; rfl
          have eR : gsR (bs (s.data.toList.drop 1)) = bs p.2 := by unfold gsR; rw [jaC, hp]; rfl
          rw [eT, eR]
          exact k
        · cases he
          obtain ⟨hc, g⟩ := andE hc
          have k := key hc
          unfold tkR0 at k
          rw [jtu g, g] at k
          exact k
        · cases he
          have k := key hc
          rw [hc, Bool.true_and] at hn hn2
          unfold gsO at hn
          rw [jaC] at hn
          unfold tkR0 at k
          have hu : unesc (s.data.toList.drop 1) = none := by
            cases hu : unesc (s.data.toList.drop 1) with
            | none => rfl
            | some p => rw [hu] at hn; cases hn
          rw [hu, hn2] at k
          exact k
      · cases hl
    · have hx1 : s.extract 1 9 = bs ((s.data.toList.drop 1).take 8) := by rw [jbr]
      have hx9 : s.extract 9 s.size = bs (s.data.toList.drop 9) := by rw [jbr, List.take_of_length_le (by rw [List.length_drop]; omega)]
      unfold tkT tkL tkO sub2
      rw [hx1, jaC]
      generalize hW : beW ((s.data.toList.drop 1).take 8) = W
      generalize hcc : (((s.data.toList.getD 0 0).toNat : Nat) : Int) = c
      have fin : (brC (decide (s.size ≤ 2000) && Nat.beq 24576 24576 && Nat.beq 5 5 && Nat.beq 0 0 && nilB [] && (1 : Int) == 1 && gsO (bs (List.drop 1 s.data.toList)))
          (some ((IV.tup [cS (gsT (bs (List.drop 1 s.data.toList))), cS (gsR (bs (List.drop 1 s.data.toList))), cB true], ([] : List (List CV)))))
          (brC (decide (s.size ≤ 2000) && Nat.beq 24576 24576 && Nat.beq 5 5 && Nat.beq 0 0 && nilB [] && (1 : Int) == 1 && un2 (List.drop 1 s.data.toList))
            (some ((IV.tup [cS ⟨#[]⟩, cS ⟨#[]⟩, cB false], [])))
            (brC (decide (s.size ≤ 2000) && Nat.beq 24576 24576 && Nat.beq 5 5 && Nat.beq 0 0 && nilB [] && (1 : Int) == 1)
              (some ((IV.tup [cS ⟨#[]⟩, cS ⟨#[]⟩, cB false], [])))
              none))) = some (IV.tup [cS ((if gsO (bs (s.data.toList.drop 1)) = true then some (gsT (bs (s.data.toList.drop 1)), gsR (bs (s.data.toList.drop 1))) else none).getD (⟨#[]⟩, ⟨#[]⟩)).1, cS ((if gsO (bs (s.data.toList.drop 1)) = true then some (gsT (bs (s.data.toList.drop 1)), gsR (bs (s.data.toList.drop 1))) else none).getD (⟨#[]⟩, ⟨#[]⟩)).2, cB (if gsO (bs (s.data.toList.drop 1)) = true then some (gsT (bs (s.data.toList.drop 1)), gsR (bs (s.data.toList.drop 1))) else none).isSome], []) := by
        rw [k1, jbs]
        cases gsO (bs (s.data.toList.drop 1)) with
        | true => rfl
        | false => cases un2 (s.data.toList.drop 1) <;> rfl
      by_cases c1 : c = 1
      · by_cases h9 : 9 ≤ s.size
        · rw [if_pos ⟨c1, h9⟩]
          have z : (bs ((s.data.toList.drop 1).take 8)).size = 8 := by rw [ja5, List.length_take, List.length_drop]; omega
          rw [z, show (c == 1) = true from beq_iff_eq.2 c1]
          by_cases hr : 1 ≤ W ∧ W ≤ 1999999999999999999
          · rw [if_pos hr]
            have w1 : IntKind.wrap .i64 (W - 1000000000000000000) = W - 1000000000000000000 := wrapI (by omega) (by omega)
            have hin : numIn (W - 1000000000000000000) = true := jk0 (by omega) (by omega)
            simp (disch := omega) only [dT, w1, hin, hx9, Int.toNat_natCast, hr.1, hr.2, Bool.and_true, Option.getD_some, Option.isSome_some]
            rfl
          · rw [if_neg hr]
            have : (decide (1 ≤ W) && decide (W ≤ 1999999999999999999)) = false := by
              cases hb : (decide (1 ≤ W) && decide (W ≤ 1999999999999999999)) with
              | false => rfl
              | true =>
                rw [Bool.and_eq_true, decide_eq_true_eq, decide_eq_true_eq] at hb
                exact absurd hb hr
            rw [this]
            simp (disch := omega) only [dT, Bool.and_true]
            rfl
        · rw [if_neg (fun h => h9 h.2), if_neg (show ¬ c = 2 by omega)]
          rw [show (c == 1) = true from beq_iff_eq.2 c1, show (c != 2) = true from bne_iff_ne.2 (by omega)]
          rw [dF (show ¬ ((s.size : Int) ≥ 9) by omega)]
          simp (disch := omega) only [dT, Bool.and_true]
          rfl
      · rw [if_neg (fun h => c1 h.1)]
        rw [show (c == 1) = false from beq_eq_false_iff_ne.2 c1]
        rw [dT (show (0 : Int) < (s.size : Int) by omega)]
        by_cases c2 : c = 2
        · rw [if_pos c2, show (c != 2) = false by rw [c2]; rfl]
          exact fin
        · rw [if_neg c2, show (c != 2) = true from bne_iff_ne.2 c2]
          rfl
  · cases h
theorem jsj : jaf Tryz.prog kbb4 := ⟨ok_tk, jrd, jd9, trivial⟩
theorem jjh {r : ByteArray} {p : ByteArray × ByteArray} (h : sub2 r = some p) (hr : r.size ≤ 2000) : p.1.size ≤ 2000 ∧ p.2.size ≤ 2000 := by
  have a3 := jjK (bs (r.data.toList.drop 1))
  have hx : (bs (r.data.toList.drop 1)).size ≤ 2000 := by rw [ja5, List.length_drop, ← jab]; omega
  unfold sub2 at h
  split at h
  · split at h
    · rename_i hr2
      cases h
      have := jc2 (n := beW ((r.data.toList.drop 1).take 8) - 1000000000000000000) ⟨by omega, by omega⟩
      refine ⟨?_, ?_⟩
      · dsimp only; rw [ja5]; omega
      · dsimp only; rw [ja5, List.length_drop, ← jab]; omega
    · cases h
  · split at h
    · split at h
      · cases h; exact ⟨by dsimp only; omega, by dsimp only; omega⟩
      · cases h
    · cases h
theorem jk6 : ∀ (k : Nat) (xs : List ByteArray) (r : ByteArray), r.size ≤ 2000 → (∀ x ∈ xs, x.size ≤ 2000) → (∀ x ∈ (walkS k xs r).2.1, x.size ≤ 2000) ∧ (walkS k xs r).2.1.length ≤ xs.length + k
  | 0, xs, r, hr, hx => ⟨hx, Nat.le_refl _⟩
  | k + 1, xs, r, hr, hx => by
    unfold walkS
    split
    · exact ⟨hx, by dsimp only; omega⟩
    · cases hs : sub2 r with
      | none => exact ⟨hx, by dsimp only; omega⟩
      | some p =>
        obtain ⟨p1, p2⟩ := jjh hs hr
        obtain ⟨h1, h2⟩ := jk6 k (xs ++ [p.1]) p.2 p2 fun x h => by
          rcases List.mem_append.1 h with h | h
          · exact hx x h
          · rw [List.mem_singleton.1 h]; exact p1
        refine ⟨h1, ?_⟩
        rw [List.length_append, List.length_singleton] at h2
        dsimp only
        omega
theorem jiD (s : ByteArray) : ∀ (m : Nat) (pre : List ByteArray) (r : ByteArray), m + pre.length = 5 → r.size ≤ 2000 → LoopsTo (rdB brC Tryz.prog kbb4 jfi jfn Tryz.f106 3 []) [aS s, aLs 4 pre, aS r]
    (if (walkS m pre r).1 = true then (.exit 0, [aS s, aX, aX, aLs 4 (walkS m pre r).2.1, aS (walkS m pre r).2.2]) else (.ret, [aS s, aLs 2 [], aB false, aLs 4 (walkS m pre r).2.1, aS (walkS m pre r).2.2])) := by
  intro m
  induction m with
  | zero =>
    intro pre r hm hr
    refine .done _ _ ((jiR s _ _ r).trans ?_)
    rw [dF (show ¬ ((pre.length : Nat) : Int) ≤ 4 by omega)]
    unfold walkS
    dsimp only
    rw [if_pos rfl]
    cases (r.toList == []) <;> rfl
  | succ m ih =>
    intro pre r hm hr
    have tree := jiR s pre.length (pre.map .str) r
    unfold walkS
    cases he : (r.toList == ([] : List UInt8)) with
    | true =>
      rw [he] at tree
      rw [if_pos rfl]
      dsimp only
      rw [if_pos rfl]
      exact .done _ _ tree
    | false =>
      rw [he] at tree
      rw [if_neg Bool.false_ne_true]
      have h0 : 0 < r.size := by
        rcases Nat.eq_zero_or_pos r.size with h | h
        · have : r.toList = [] := List.length_eq_zero_iff.1 (by rw [ByteArray.toList_eq, ← jab]; exact h)
          rw [this] at he
          cases he
        · exact h
      have b1 : ∀ x : PV, Nat.beq (List.length [x]) (1 * 1) = true := fun _ => rfl
      simp (disch := omega) only [dT, Int.toNat_natCast, b1, Bool.and_true, Bool.true_and] at tree
      cases hsb : sub2 r with
      | none =>
        have hO : tkO r = false := by unfold tkO; rw [hsb]; rfl
        rw [hO] at tree
        dsimp only
        rw [if_neg Bool.false_ne_true]
        exact .done _ _ tree
      | some p =>
        have hO : tkO r = true := by unfold tkO; rw [hsb]; rfl
        have hT : tkT r = p.1 := by unfold tkT; rw [hsb]; rfl
        have hL : tkL r = p.2 := by unfold tkL; rw [hsb]; rfl
        rw [hO, hT, hL] at tree
        have := ih (pre ++ [p.1]) p.2 (by rw [List.length_append, List.length_singleton]; omega) (jjh hsb hr).2
        unfold aLs at this ⊢
        rw [List.length_append, List.length_singleton, List.map_append] at this
        exact .step _ _ _ tree this
theorem jqL (y : ByteArray) (r : List UInt8) : sub2 (bs (encS y.data.toList ++ r)) = some (y, bs r) := by
  have hg : ∀ (c : UInt8) (L : List UInt8), (bs (c :: L)).data.toList.getD 0 0 = c := fun c L => by rw [jaC]; rfl
  by_cases hcn : jap y.data.toList = true
  · have e : encS y.data.toList ++ r = 1 :: (beK 8 (numOf y.data.toList + 1000000000000000000).toNat ++ r) := by
      unfold encS
      rw [if_pos hcn]
      rfl
    rw [e]
    have hr := jaV y.data.toList
    generalize hn : (numOf y.data.toList + 1000000000000000000).toNat = n
    have htk : (beK 8 n ++ r).take 8 = beK 8 n := by rw [List.take_left' (jbZ 8 n)]
    have hdr : (beK 8 n ++ r).drop 8 = r := by rw [List.drop_left' (jbZ 8 n)]
    have hv : beV (beK 8 n) = n := by
      have big : (256 : Nat) ^ 8 = 18446744073709551616 := by decide
      have h := jjC 8 n 0
      rw [big] at h
      refine Eq.trans (show beV (beK 8 n) = (beK 8 n).foldl (fun n c => n * 256 + c.toNat) 0 from rfl) ?_
      omega
    have hw : beW (beK 8 n) = (n : Int) := by unfold beW; rw [hv]; exact wrapI (by omega) (by omega)
    have hnn : ((n : Nat) : Int) - 1000000000000000000 = numOf y.data.toList := by omega
    have h9 : 9 ≤ (bs (1 :: (beK 8 n ++ r))).size := by rw [ja5, List.length_cons, List.length_append, jbZ]; omega
    have ht : bs (jas (numOf y.data.toList)) = y := by
      have := of_decide_eq_true hcn
      rw [this, jaK]
    unfold sub2
    rw [hg, if_pos ⟨(rfl : (((1 : UInt8).toNat : Nat) : Int) = 1), h9⟩, jaC, List.drop_succ_cons, List.drop_zero, htk, hw, if_pos (by omega), hnn, ht, List.drop_succ_cons, hdr]
  · have e : encS y.data.toList ++ r = 2 :: (escS y.data.toList ++ 0 :: 0 :: r) := by
      unfold encS
      rw [if_neg hcn]
      simp
    rw [e]
    have hu := jfL y.data.toList r
    have hO : gsO (bs (escS y.data.toList ++ 0 :: 0 :: r)) = true := by unfold gsO; rw [jaC, hu]; rfl
    unfold sub2
    rw [hg, if_neg (fun h => absurd h.1 (by decide)), if_pos (show (((2 : UInt8).toNat : Nat) : Int) = 2 from rfl), jaC, List.drop_succ_cons, List.drop_zero, if_pos hO]
    unfold gsT gsR
    rw [jaC, hu]
    show some (bs y.data.toList, bs r) = _
    rw [jaK]
theorem ji5 : ∀ (ys pre : List ByteArray) (m : Nat), ys.length ≤ m → walkS m pre (bs (encL ys)) = (true, pre ++ ys, ⟨#[]⟩)
  | [], pre, m, h => by
    cases m with
    | zero => unfold walkS; rw [List.append_nil]; rfl
    | succ m =>
      unfold walkS
      rw [jbp, if_pos (show (encL []).isEmpty = true from rfl), List.append_nil]
      rfl
  | y :: ys, pre, 0, h => by simp at h
  | y :: ys, pre, m + 1, h => by
    rw [List.length_cons] at h
    have ih := ji5 ys (pre ++ [y]) m (by omega)
    obtain ⟨c, L, hL⟩ : ∃ c L, encL (y :: ys) = c :: L := jhm y.data.toList (encL ys)
    unfold walkS
    rw [jbp, hL, if_neg (by simp), ← hL]
    rw [show encL (y :: ys) = encS y.data.toList ++ encL ys from rfl, jqL]
    dsimp only
    rw [ih, List.append_assoc]
    rfl
theorem jsy : jac Tryz.prog 106 E_sget := jgd mix jsj (lp := jfi) (LO := jfn) ⟨Tryz.func106, by kernel_rfl, by kernel_rfl⟩ (by kernel_rfl) fun ivs res bxs h => by
  unfold E_sget at h
  split at h
  · rename_i s
    have LP : ∀ b ∈ jau (jbg Tryz.f106), jbk Tryz.prog (tabL kbb4) (OL jfi) Tryz.f106.ntmps (pbOf []) jfn b := by
      refine jav 3 (by kernel_rfl) (by kernel_rfl) (by kernel_rfl) ?_
      intro ls e ls' hl
      replace hl : pickA (je3 ls) = some (e, ls') := hl
      unfold je3 at hl
      split at hl
      · rename_i s x e cn cl r
        rcases pick2 hl with ⟨hc, he⟩ | ⟨hn, hc, he⟩
        · cases he
          obtain ⟨hc, g5⟩ := andE hc
          obtain ⟨hc, g4⟩ := andE hc
          obtain ⟨hc, g3⟩ := andE hc
          obtain ⟨hc, g2⟩ := andE hc
          obtain ⟨g0, g1⟩ := andE hc
          rw [nqB g2, nqB g3, nqB g4, jbl g5]
          have := jiD s 5 [] r rfl (of_decide_eq_true g0)
          rw [g1, if_pos rfl] at this
          exact this
        · cases he
          obtain ⟨hc, g5⟩ := andE hc
          obtain ⟨hc, g4⟩ := andE hc
          obtain ⟨hc, g3⟩ := andE hc
          obtain ⟨g0, g2⟩ := andE hc
          have g1 : (walkS 5 [] r).1 = false := by
            cases hw : (walkS 5 [] r).1 with
            | false => rfl
            | true =>
              rw [g0, g2, g3, g4, g5, hw] at hn
              cases hn
          rw [nqB g2, nqB g3, nqB g4, jbl g5]
          have := jiD s 5 [] r rfl (of_decide_eq_true g0)
          rw [g1, if_neg Bool.false_ne_true] at this
          exact this
      · cases hl
    have tree := jnF s
    refine ⟨LP, ?_⟩
    rcases pick2 h with ⟨hc, he⟩ | ⟨hn, hc, he⟩
    · cases he
      obtain ⟨k0, k1⟩ := andE hc
      have hs := of_decide_eq_true k0
      obtain ⟨xs, hx, hB⟩ := jai k1
      obtain ⟨hx4, hx24⟩ := jbv hB
      have es : s = bs (encL xs) := by rw [← hx, jaK]
      have hw : walkS 5 [] s = (true, xs, ⟨#[]⟩) := by rw [es, ji5 xs [] 5 (by omega)]; rfl
      have hsh : shL xs := ⟨by omega, fun z hz => by have := hx24 z hz; omega⟩
      have e1 := jaq hsh
      have e2 := jam xs
      have hq : (ByteArray.toList (bs (encL xs)) == ByteArray.toList s) = true := by rw [← es]; simp
      have hz : (ByteArray.toList (⟨#[]⟩ : ByteArray) == ([] : List UInt8)) = true := jbp []
      rw [hw] at tree
      rw [hx, jcZ]
      simp only [isL, k0, jbs, e1, jam, hB, hq, hz, Bool.and_true, Bool.true_and, Nat.beq_refl] at tree
      exact ⟨_, tree.trans rfl, rfl, rfl⟩
    · cases he
      have hs := of_decide_eq_true hc
      have hne : holds (isEnc s.data.toList) = false := by
        cases hh : holds (isEnc s.data.toList) with
        | false => rfl
        | true => rw [hc, hh] at hn; cases hn
      refine ⟨.tup [.cv (.lst 1 9 0 [] false), cB false], ?_, rfl, rfl⟩
      cases hw1 : (walkS 5 [] s).1 with
      | false =>
        simp only [hw1, hc, jbs, Bool.and_true, Bool.true_and, Bool.and_false, Bool.false_and, Nat.beq_refl] at tree
        exact tree.trans rfl
      | true =>
        obtain ⟨z1, z2⟩ := jk6 5 [] s hs (fun _ h => by cases h)
        have hsh : shL (walkS 5 [] s).2.1 := ⟨by simp at z2; omega, fun z hz => by have := z1 z hz; omega⟩
        have e1 := jaq hsh
        have e2 := jam (walkS 5 [] s).2.1
        rw [hw1] at tree
        simp only [isL, hc, jbs, e1, jam, Bool.and_true, Bool.true_and, Nat.beq_refl] at tree
        cases hz : (ByteArray.toList (walkS 5 [] s).2.2 == ([] : List UInt8)) with
        | false =>
          rw [hz] at tree
          exact tree.trans rfl
        | true =>
          rw [hz] at tree
          cases hB : subsB (walkS 5 [] s).2.1 with
          | false =>
            rw [hB] at tree
            exact tree.trans rfl
          | true =>
            have hq : (ByteArray.toList (bs (encL (walkS 5 [] s).2.1)) == ByteArray.toList s) = false := by
              refine beq_eq_false_iff_ne.2 fun e => ?_
              have : holds (isEnc s.data.toList) = true := jag ⟨(walkS 5 [] s).2.1, by
                have := congrArg (fun l => l) e
                rw [jfE, ByteArray.toList_eq] at this
                exact this.symm, hB⟩
              rw [hne] at this
              cases this
            rw [hB, hq] at tree
            exact tree.trans rfl
  · cases h
theorem joM : jaf Tryz.prog kbb5 := ⟨jgb, jkd, jsy, trivial⟩
theorem jdH (s : ByteArray) (xs : List ByteArray) : keyV2 s xs = if jaG s xs = true then bs (keyL s xs) else ⟨#[]⟩ := jci _
theorem jdX {s : ByteArray} (h : nameB s = true) : s.size ≤ 8 := by
  unfold nameB at h
  rw [Bool.and_eq_true, Bool.and_eq_true, decide_eq_true_eq, decide_eq_true_eq] at h
  exact h.1.2
theorem jnQ {s : ByteArray} {xs : List ByteArray} (h : jaG s xs = true) : (keyL s xs).length ≤ 300 := by
  obtain ⟨h1, h2⟩ := jbB h
  obtain ⟨h3, h4⟩ := jbv h2
  have h5 := jdy xs h4
  have h6 := jdX h1
  rw [jab] at h6
  unfold keyL
  rw [List.length_append, List.length_cons]
  omega
theorem jgu (s : ByteArray) (xs : List ByteArray) (h1 : s.size ≤ 1000000) (hx : shL xs) :
    brC (decide (ByteArray.size s ≤ 1000000) && isL (PV.sl (List.length xs) (List.map PV.str xs)))
      (brC (!jaG s (asL (PV.sl (List.length xs) (List.map PV.str xs))))
        (some ((IV.cv (CV.pv (PV.str { data := #[] })), ([] : List (List CV)))))
        (brC (decide (ByteArray.size s + 1 ≤ 9223372036854775807) && true)
          (brC (isL (PV.sl (List.length xs) (List.map PV.str xs)))
            (brC (decide (ByteArray.size (s ++ { data := #[1] }) + ByteArray.size (bs (putL (asL (PV.sl (List.length xs) (List.map PV.str xs))))) ≤ 9223372036854775807) && true)
              (some ((IV.cv (CV.pv (PV.str (s ++ { data := #[1] } ++ bs (putL (asL (PV.sl (List.length xs) (List.map PV.str xs))))))), [])))
              (none))
            (none))
          (none)))
      (none) = some (cS (keyV2 s xs), []) := by
  have e1 : isL (PV.sl xs.length (xs.map .str)) = true := jaq hx
  have e2 : asL (PV.sl xs.length (xs.map .str)) = xs := jam xs
  rw [jdH, e2, e1, dT h1]
  cases hB : jaG s xs with
  | true =>
    rw [if_pos rfl]
    have hp : putL xs = encL xs := by unfold putL; rw [if_pos (jbB hB).2]
    have e3 : s ++ { data := #[1] } ++ bs (encL xs) = bs (keyL s xs) := by
      conv => lhs; rw [← jaK s]
      rw [show ({ data := #[1] } : ByteArray) = bs [1] from rfl, jfg, jfg]
      unfold keyL
      rw [List.append_assoc]
      rfl
    have hk := jnQ hB
    have l1 : (s ++ { data := #[1] }).size + (bs (encL xs)).size = (keyL s xs).length := by rw [← ByteArray.size_append, e3, ja5]
    rw [hp, l1, e3, dT (show s.size + 1 ≤ 9223372036854775807 by omega), dT (show (keyL s xs).length ≤ 9223372036854775807 by omega)]
    rfl
  | false =>
    rw [if_neg Bool.false_ne_true]
    rfl
theorem jmj : jac Tryz.prog 89 E_KeyOf2 := jad mix joM (lp := []) (LO := LO0) ⟨Tryz.func89, by kernel_rfl, by kernel_rfl⟩ (by kernel_rfl) fun ivs res bxs h => by
  unfold E_KeyOf2 at h
  split at h
  · rename_i s p
    obtain ⟨hc, he⟩ := pick1 h
    cases he
    obtain ⟨k0, k1⟩ := andE hc
    obtain ⟨xs, rfl, hx⟩ := jan k1
    have ea : asL (pL xs) = xs := jam xs
    rw [ea]
    exact ⟨jar (by kernel_rfl), (jj4 s xs).trans (jgu s xs (of_decide_eq_true k0) hx)⟩
  · cases h
theorem jm4 : jac Tryz.prog 113 E_KeyOf2 := jad mix (tab := [(171, E_locationOk), (168, E_PutSubs)]) ⟨jdD, jgY, trivial⟩ (lp := []) (LO := LO0) ⟨Tryz.func113, by kernel_rfl, by kernel_rfl⟩ (by kernel_rfl) fun ivs res bxs h => by
  unfold E_KeyOf2 at h
  split at h
  · rename_i s p
    obtain ⟨hc, he⟩ := pick1 h
    cases he
    obtain ⟨k0, k1⟩ := andE hc
    obtain ⟨xs, rfl, hx⟩ := jan k1
    have ea : asL (pL xs) = xs := jam xs
    rw [ea]
    exact ⟨jar (by kernel_rfl), (jj0 s xs).trans (jgu s xs (of_decide_eq_true k0) hx)⟩
  · cases h
theorem jj8 : jac Tryz.prog 107 E_l03Subs2 := jgd mix (tab := []) trivial (lp := []) (LO := LO0) ⟨Tryz.func107, by kernel_rfl, by kernel_rfl⟩ (by kernel_rfl) fun ivs res bxs h => by
  unfold E_l03Subs2 at h
  split at h
  · rename_i p
    obtain ⟨hc, he⟩ := pick1 h
    cases he
    obtain ⟨xs, rfl, hx⟩ := jan hc
    have ea : asL (pL xs) = xs := jam xs
    have hl := hx.1
    rw [ea]
    have tree := jhH xs
    have e1 : Nat.beq (List.map PV.str xs).length (xs.length * 1) = true := by rw [List.length_map, Nat.mul_one]; exact Nat.beq_refl _
    rw [e1, dT (show 0 + xs.length ≤ 140737488351232 by omega), dT (show (0 + xs.length) * 16 ≤ 140737488355328 by omega), Nat.zero_add] at tree
    exact ⟨jar (by kernel_rfl), _, tree.trans rfl, rfl, rfl⟩
  · cases h
theorem jsz : jaf Tryz.prog kbb6 := ⟨jj8, joM⟩
noncomputable abbrev kpR (a : ByteArray) (m i : Nat) : Ex × LS := match kpF a m i with
  | some j => if holds (isEnc (a.data.toList.drop (j + 1))) = true ∧ jaG (bs (a.data.toList.take j)) (decL (a.data.toList.drop (j + 1))) = true
      then (.ret, [aS a, aS (bs (a.data.toList.take j)), aP (pL (decL (a.data.toList.drop (j + 1)))), aB true])
      else (.ret, [aS a, aS ⟨#[]⟩, aP .nils, aB false])
  | none => (.exit 0, [aS a, aX, aX, aX])
theorem jsq (a : ByteArray) (ha : a.size ≤ 2000) : ∀ (m i : Nat), m + i = 9 → 1 ≤ i → LoopsTo (rdB brC Tryz.prog kbb6 lp_kp LO_kp Tryz.f44 2 []) [aS a, aI i] (kpR a m i) := by
  have hla : a.size = a.data.toList.length := jab a
  intro m
  induction m with
  | zero =>
    intro i hm h1
    refine .done _ _ ((jnZ a i).trans ?_)
    rw [dF (show ¬ (i : Int) ≤ 8 by omega)]
    cases decide ((i : Int) < (a.size : Int)) <;> rfl
  | succ m ih =>
    intro i hm h1
    have tree := jnZ a i
    have w1 : IntKind.wrap .i64 ((i : Int) + 1) = ((i + 1 : Nat) : Int) := by rw [wrapI (by omega) (by omega)]; omega
    rw [w1] at tree
    unfold kpR kpF
    by_cases hi : i < a.size
    · rw [if_pos ⟨hi, by omega⟩]
      have hx0 : a.extract 0 i = bs (a.data.toList.take i) := by rw [jbr, List.drop_zero, Nat.sub_zero]
      have hx1 : a.extract (i + 1) a.size = bs (a.data.toList.drop (i + 1)) := by rw [jbr, List.take_of_length_le (by rw [List.length_drop]; omega)]
      have z0 : (bs (a.data.toList.take i)).size ≤ 1000000 := by rw [ja5, List.length_take]; omega
      have z1 : (bs (a.data.toList.drop (i + 1))).size ≤ 2000 := by rw [ja5, List.length_drop]; omega
      simp (disch := omega) only [dT, Int.toNat_natCast, hx0, hx1, jaC, Bool.and_true, Bool.true_and] at tree
      by_cases c1 : a.data.toList.getD i 0 = 1
      · rw [if_pos c1]
        dsimp only
        rw [c1, show (((((1 : UInt8).toNat : Nat) : Int)) != (1 : Int)) = false from rfl] at tree
        by_cases hE : isEnc (a.data.toList.drop (i + 1))
        · rw [jag hE] at tree ⊢
          obtain ⟨xs, hx, hB⟩ := hE
          obtain ⟨hx4, hx24⟩ := jbv hB
          have hsh : shL xs := ⟨by omega, fun z hz => by have := hx24 z hz; omega⟩
          have e1 := jaq hsh
          rw [hx, jcZ] at tree ⊢
          simp only [isL, e1, jam] at tree
          cases hp : jaG (bs (a.data.toList.take i)) xs with
          | true =>
            rw [hp] at tree
            rw [if_pos ⟨rfl, rfl⟩]
            exact .done _ _ tree
          | false =>
            rw [hp] at tree
            rw [if_neg (fun h => Bool.false_ne_true h.2)]
            exact .done _ _ tree
        · have hf : holds (isEnc (a.data.toList.drop (i + 1))) = false := @decide_eq_false _ (Classical.propDecidable _) hE
          rw [hf] at tree ⊢
          rw [if_neg (fun h => Bool.false_ne_true h.1)]
          exact .done _ _ tree
      · rw [if_neg c1]
        rw [show ((((a.data.toList.getD i 0).toNat : Nat) : Int) != (1 : Int)) = true from bne_iff_ne.2 fun h => c1 (UInt8.toNat_inj.1 (by show _ = 1; omega))] at tree
        have := ih (i + 1) (by omega) (by omega)
        exact .step _ _ _ tree this
    · rw [if_neg (fun h => hi h.1)]
      rw [dF (by omega)] at tree
      exact .done _ _ tree
theorem jhr (a : ByteArray) : ∀ (m i j : Nat), kpF a m i = some j → i ≤ j ∧ j < a.size ∧ a.data.toList.getD j 0 = 1 ∧ ∀ k, i ≤ k → k < j → a.data.toList.getD k 0 ≠ 1
  | 0, i, j, h => by cases h
  | m + 1, i, j, h => by
    unfold kpF at h
    split at h
    · rename_i hi
      split at h
      · rename_i h1
        cases h
        exact ⟨Nat.le_refl _, hi.1, h1, fun k h1 h2 => by omega⟩
      · rename_i h1
        obtain ⟨g1, g2, g3, g4⟩ := jhr a m (i + 1) j h
        exact ⟨by omega, g2, g3, fun k hk1 hk2 => by
          rcases Nat.eq_or_lt_of_le hk1 with rfl | hk
          · exact h1
          · exact g4 k hk hk2⟩
    · cases h
theorem jk2 (a : ByteArray) : ∀ (m i : Nat), kpF a m i = none → ∀ k, i ≤ k → k < i + m → k < a.size → k ≤ 8 → a.data.toList.getD k 0 ≠ 1
  | 0, i, h, k, h1, h2, _, _ => by omega
  | m + 1, i, h, k, h1, h2, h3, h4 => by
    unfold kpF at h
    rw [if_pos ⟨by omega, by omega⟩] at h
    split at h
    · cases h
    · rename_i hne
      rcases Nat.eq_or_lt_of_le h1 with rfl | hk
      · exact hne
      · exact jk2 a m (i + 1) h k hk (by omega) h3 h4
theorem ky_kp {a s : ByteArray} {xs : List ByteArray} (h : a.data.toList = keyL s xs) (hp : jaG s xs = true) : kpF a 8 1 = some s.size ∧ a.data.toList.take s.size = s.data.toList ∧ a.data.toList.drop (s.size + 1) = encL xs := by
  obtain ⟨n1, n2⟩ := jbB hp
  have hbig := jig n1
  have hle := jdX n1
  have hsl : s.size = s.data.toList.length := jab s
  have h0 : 1 ≤ s.size := by
    unfold nameB at n1
    rw [Bool.and_eq_true, Bool.and_eq_true, decide_eq_true_eq, decide_eq_true_eq] at n1
    omega
  have hat : a.data.toList.getD s.size 0 = 1 := by
    rw [h, hsl, List.getD_eq_getElem?_getD]
    unfold keyL
    rw [List.getElem?_append_right (Nat.le_refl _), Nat.sub_self]
    rfl
  have hlt : ∀ k, k < s.size → a.data.toList.getD k 0 ≠ 1 := fun k hk => by
    rw [h, List.getD_eq_getElem?_getD]
    unfold keyL
    rw [List.getElem?_append_left (by omega), List.getElem?_eq_getElem (by omega)]
    exact jrk (hbig _ (List.getElem_mem _))
  have hsz : s.size < a.size := by
    rw [jab a, h]
    unfold keyL
    rw [List.length_append, List.length_cons]
    omega
  refine ⟨?_, ?_, ?_⟩
  · cases hk : kpF a 8 1 with
    | none => exact absurd hat (jk2 a 8 1 hk s.size h0 (by omega) hsz hle)
    | some j =>
      obtain ⟨g1, g2, g3, g4⟩ := jhr a 8 1 j hk
      rcases Nat.lt_trichotomy j s.size with h | h | h
      · exact absurd g3 (hlt j h)
      · rw [h]
      · exact absurd hat (g4 s.size h0 h)
  · rw [h, hsl]
    unfold keyL
    rw [List.take_left]
  · rw [h, hsl]
    unfold keyL
    rw [show s.data.toList ++ 1 :: encL xs = (s.data.toList ++ [1]) ++ encL xs by simp, show s.data.toList.length + 1 = (s.data.toList ++ [1]).length by simp, List.drop_left]
theorem kp_ky {a : ByteArray} {j : Nat} (hk : kpF a 8 1 = some j) {xs : List ByteArray} (hx : a.data.toList.drop (j + 1) = encL xs) (hp : jaG (bs (a.data.toList.take j)) xs = true) : isKy a := by
  obtain ⟨g1, g2, g3, g4⟩ := jhr a 8 1 j hk
  have hla : a.size = a.data.toList.length := jab a
  refine ⟨(bs (a.data.toList.take j), xs), ?_, hp⟩
  have hg : a.data.toList[j]'(by omega) = 1 := by
    rw [List.getD_eq_getElem?_getD, List.getElem?_eq_getElem (by omega)] at g3
    exact g3
  unfold keyL
  dsimp only
  rw [jaC, ← hx, ← hg, ← List.drop_eq_getElem_cons (by omega), List.take_append_drop]
theorem jpf : jac Tryz.prog 44 E_SKeyPl := jad mix jsz (lp := lp_kp) (LO := LO_kp) ⟨Tryz.func44, by kernel_rfl, by kernel_rfl⟩ (by kernel_rfl) fun ivs res bxs h => by
  unfold E_SKeyPl at h
  split at h
  · rename_i a
    refine ⟨jav 2 (by kernel_rfl) (by kernel_rfl) (by kernel_rfl) ?_, (jsL a).trans ?_⟩
    · intro ls e ls' hl
      replace hl : pickA (jkM ls) = some (e, ls') := hl
      unfold jkM at hl
      split at hl
      · rename_i a i
        have key : decide (a.size ≤ 2000) = true → (i == 1) = true → LoopsTo (rdB brC Tryz.prog kbb6 lp_kp LO_kp Tryz.f44 2 []) [aS a, aI i] (kpR a 8 1) := fun h1 h2 => by
          rw [eq_of_beq h2]
          exact jsq a (of_decide_eq_true h1) 8 1 rfl (Nat.le_refl _)
        rcases jrm hl with ⟨hc, he⟩ | ⟨hn, hc, he⟩ | ⟨hn, hn2, hc, he⟩
        · cases he
          obtain ⟨hc, g2⟩ := andE hc
          obtain ⟨g0, g1⟩ := andE hc
          have k := key g0 g1
          obtain ⟨⟨s, xs⟩, h3, h4⟩ := jai g2
          obtain ⟨y1, y2, y3⟩ := ky_kp h3 h4
          unfold kpR at k
          rw [y1] at k
          dsimp only at k
          rw [y2, y3, jcZ, jaK, if_pos ⟨jag ⟨xs, rfl, (jbB h4).2⟩, h4⟩] at k
          rw [jhg h3 h4]
          exact k
        · cases he
          obtain ⟨hc, g2⟩ := andE hc
          obtain ⟨g0, g1⟩ := andE hc
          have k := key g0 g1
          obtain ⟨j, hj⟩ := Option.isSome_iff_exists.1 g2
          have hnk : ¬ isKy a := fun hk => by rw [g0, g1, jag hk] at hn; cases hn
          unfold kpR at k
          rw [hj] at k
          dsimp only at k
          rw [if_neg (fun hh => by
            obtain ⟨xs, hx, hB⟩ := jai hh.1
            have h2 := hh.2
            rw [hx, jcZ] at h2
            exact hnk (kp_ky hj hx h2))] at k
          exact k
        · cases he
          obtain ⟨g0, g1⟩ := andE hc
          have k := key g0 g1
          have hj : kpF a 8 1 = none := by
            cases hj : kpF a 8 1 with
            | none => rfl
            | some j => rw [g0, g1, hj] at hn2; cases hn2
          unfold kpR at k
          rw [hj] at k
          exact k
      · cases hl
    · rcases pick2 h with ⟨hc, he⟩ | ⟨hn, hc, he⟩
      · cases he
        obtain ⟨k0, k1⟩ := andE hc
        rw [k0, k1]
        rfl
      · cases he
        rw [hc] at hn ⊢
        rw [Bool.true_and] at hn
        rw [hn]
        cases (kpF a 8 1).isSome <;> rfl
  · cases h
end
section
open Go.RowKit
end
section
end
section
open Go.RowKit
end
section
open Go.RowKit
theorem jpX {b t T : Nat} {v : Value} (h : locS noL (b, t) (4 * T + 3) = some v) : t = T ∧ v = .pointer none := by
  unfold locS at h
  rw [show (4 * T + 3) % 2 = 1 by omega, show (4 * T + 3) / 4 = T by omega, show (4 * T + 3) % 4 = 3 by omega] at h
  cases hb : Nat.beq T t with
  | false => rw [show Nat.beq 1 0 = false from rfl, hb] at h; cases h
  | true => rw [show Nat.beq 1 0 = false from rfl, hb] at h; cases h; exact ⟨(nqB hb).symm, rfl⟩
theorem jqd {b t T : Nat} {v : Value} (h : locS noL (b, t) (4 * T + 1) = some v) : t = T ∧ v = .pointer (some ⟨b, 0, none⟩) := by
  unfold locS at h
  rw [show (4 * T + 1) % 2 = 1 by omega, show (4 * T + 1) / 4 = T by omega, show (4 * T + 1) % 4 = 1 by omega] at h
  cases hb : Nat.beq T t with
  | false => rw [show Nat.beq 1 0 = false from rfl, hb] at h; cases h
  | true => rw [show Nat.beq 1 0 = false from rfl, hb] at h; cases h; exact ⟨(nqB hb).symm, rfl⟩
theorem jnE (loc : Nat → Option Value) (b T : Nat) : locS loc (b, T) (4 * T + 1) = some (.pointer (some ⟨b, 0, none⟩)) := by
  unfold locS
  rw [show (4 * T + 1) % 2 = 1 by omega, show (4 * T + 1) / 4 = T by omega, show (4 * T + 1) % 4 = 1 by omega, show Nat.beq T T = true from Nat.beq_refl T]
  rfl
theorem jlm : (Tryz.prog.info? 118).map (·.size) = some 2 := by kernel_rfl
theorem jqe : liesAt Tryz.prog Tryz.prog.depth 118 (2 / Tryz.prog.cellsOf 118) 0 118 1 = true := by kernel_rfl
set_option maxHeartbeats 1000000 in
set_option maxRecDepth 100000 in
theorem jgh (b : Nat) (w : World) (h0 : w.cell? ⟨b, 0, none⟩ = some (.pointer (some ⟨b, 0, none⟩))) :
    Calls Tryz.prog 143 #[.pointer (some ⟨b, 0, none⟩)] w fun e w' => e = .returned (.tuple #[]) ∧ w' = w := by
  obtain ⟨j, hj, _⟩ := Option.map_eq_some_iff.1 jlm
  go_enter Tryz.func143, Tryz.ntmps143
  go_wp2
  rw [Lib.run_neq_ptr_same w _ Tryz.underlying116 hj]
  go_wp2
  go_end0
  exact ⟨rfl, rfl⟩
set_option maxHeartbeats 1000000 in
set_option maxRecDepth 100000 in
theorem jfo (b : Nat) (w : World) (h0 : w.cell? ⟨b, 0, none⟩ = some (.pointer none)) (hsh : w.shape? b = some (118, 2)) (hfz : w.frozen? ⟨b, 0, none⟩ = false) :
    Calls Tryz.prog 143 #[.pointer (some ⟨b, 0, none⟩)] w fun e w' => e = .returned (.tuple #[]) ∧ w' = w.setCell ⟨b, 0, none⟩ (.pointer (some ⟨b, 0, none⟩)) := by
  obtain ⟨j, hj, hjs⟩ := Option.map_eq_some_iff.1 jlm
  go_enter Tryz.func143, Tryz.ntmps143
  go_wp2
  rw [Lib.run_to_unsafe w ⟨b, 0, none⟩ Tryz.underlying116 Tryz.underlying213 hj (by rw [hjs]; decide) hsh (Nat.zero_lt_succ 1)]
  simp only [Result.andThen]
  rw [Oper.upon_value]
  go_wp2
  rw [run_callFunc_extern Tryz.func198 (by kernel_rfl) (by kernel_rfl) (by kernel_rfl) (e := Extern.AbiNoEscape.same) (by kernel_rfl)]
  rw [Lib.run_noEscape]
  simp only [Result.andThen]
  rw [Oper.upon_value]
  go_wp2
  rw [Lib.run_from_unsafe w ⟨b, 0, none⟩ Tryz.underlying213 Tryz.underlying116 hj hsh jqe]
  simp only [Result.andThen]
  rw [Oper.upon_value]
  go_wp2
  go_end0
  exact ⟨rfl, rfl⟩
abbrev bldT : Nat := 118
noncomputable def E_copyCheck : Entry := fun ivs => match ivs with
  | [.box 0 [.al a, c]] => [(Nat.beq a (4 * bldT + 3) || Nat.beq a (4 * bldT + 1), .tup [], [[.al (4 * bldT + 1), c]])]
  | _ => []
theorem jp9 {w : World} {com : Nat → Nat} {loc : Nat → Option Value} {cur : List Value} {c1 c2 : CV} {bs : List Nat} (h : CReps w com loc cur [c1, c2] bs) :
    ∃ v1 v2 b1 b2, cur = [v1, v2] ∧ bs = b1 ++ b2 ∧ CRep w com loc v1 c1 b1 ∧ CRep w com loc v2 c2 b2 ∧ v1.oneCell' = true ∧ v2.oneCell' = true := by
  cases h with
  | @cons v1 _ b1 _ _ _ h1 o1 k =>
    cases k with
    | @cons v2 _ b2 _ _ _ h2 o2 k2 =>
      cases k2
      exact ⟨v1, v2, b1, b2, rfl, by rw [List.append_nil], h1, h2, o1, o2⟩
theorem jrg {w : World} {com : Nat → Nat} {loc : Nat → Option Value} {v : Value} {d : Nat} {bs : List Nat} (h : CRep w com loc v (.al d) bs) : loc d = some v ∧ bs = [] := by
  cases h with
  | al d h => exact ⟨h, rfl⟩
theorem jdz {P : Program} {g : FuncId} {c1 c2 c1' c2' : CV} {res : IV} (h : ∀ (w : World) (com : Nat → Nat) (b t : Nat) (v1 v2 : Value) (b1 b2 : List Nat), w.heap[b]? = some (.cells #[v1, v2] t (0, 0)) → com b = 0 → CRep w com (locS noL (b, t)) v1 c1 b1 → CRep w com (locS noL (b, t)) v2 c2 b2 → v1.oneCell' = true → v2.oneCell' = true → (b :: (b1 ++ b2)).Nodup → (∀ b, w.heap.size ≤ b → com b = 0) →
    Calls P g #[.pointer (some ⟨b, 0, none⟩)] w fun e w' => ∃ v com' v1' v2' b1' b2', e = .returned v ∧ Ext w com w' com' ∧ Fr w.heap.size (fun x => x ∈ b :: (b1 ++ b2)) w w' ∧ (∀ b, w'.heap.size ≤ b → com' b = 0) ∧ (∀ x, x < w.heap.size → x ∉ b :: (b1 ++ b2) → com' x = com x) ∧
      RRep w' com' v res [] ∧ w'.heap[b]? = some (.cells #[v1', v2'] t (0, 0)) ∧ com' b = 0 ∧ CRep w' com' (locS noL (b, t)) v1' c1' b1' ∧ CRep w' com' (locS noL (b, t)) v2' c2' b2' ∧ v1'.oneCell' = true ∧ v2'.oneCell' = true ∧ (b :: (b1' ++ b2')).Nodup ∧ ∀ x ∈ b1' ++ b2', x ∈ b1 ++ b2 ∨ w.heap.size ≤ x) :
    jaE P g [.box 0 [c1, c2]] res [[c1', c2']] := by
  intro w com vals bs hI hnd hfresh hgl
  cases hI with
  | cons h1 h2 =>
    cases h2
    cases h1 with
    | box b o cur t l bs hb hc hC =>
      obtain ⟨v1, v2, b1, b2, rfl, rfl, r1, r2, o1, o2⟩ := jp9 hC
      rw [List.append_nil] at hnd
      refine (h w com b t v1 v2 b1 b2 hb hc r1 r2 o1 o2 hnd hfresh).mono ?_
      rintro e w' ⟨v, com', v1', v2', b1', b2', rfl, hx, hf, hfr, hk, hr, hb', hc', r1', r2', o1', o2', hnd', hwas⟩
      refine ⟨v, com', [], b :: (b1' ++ b2') ++ [], rfl, hx, by simpa using hf, hfr, by simpa using hk, hr, .box b 0 [v1', v2'] t _ _ (b1' ++ b2') [] [] [] [] hb' hc' ?_ .nil, by simpa using hnd', fun x hx' => ?_⟩
      · have := CReps.cons r1' o1' (CReps.cons r2' o2' (CReps.nil (w := w') (com := com') (loc := locS noL (b, t))))
        simpa using this
      · simp only [List.nil_append, List.append_nil, List.mem_cons] at hx' ⊢
        rcases hx' with rfl | hx'
        · exact .inl (.inl rfl)
        · exact (hwas x hx').imp .inr id
theorem jip : jac Tryz.prog 143 E_copyCheck := ⟨⟨_, Tryz.func143, by kernel_rfl, by kernel_rfl⟩, fun ivs res bxs h => by
  unfold E_copyCheck at h
  split at h
  · rename_i a c
    obtain ⟨hc, he⟩ := pick1 h
    cases he
    rw [Bool.or_eq_true] at hc
    refine jdz fun w com b t v1 v2 b1 b2 hb hcb r1 r2 o1 o2 hnd hfresh => ?_
    obtain ⟨hd, rfl⟩ := jrg r1
    rw [List.nil_append] at hnd ⊢
    have hlt : b < w.heap.size := (Array.getElem?_eq_some_iff.1 hb).1
    have hfz : w.frozen? ⟨b, 0, none⟩ = false := by
      unfold World.frozen?
      rw [hb]
      rfl
    have h0 : w.cell? ⟨b, 0, none⟩ = some v1 := by rw [cell_of_row w b 0 _ t (0, 0) hb]; rfl
    rcases hc with hc | hc
    · obtain rfl := nqB hc
      obtain ⟨rfl, rfl⟩ := jpX hd
      refine (jfo b w h0 (by unfold World.shape?; rw [hb]; rfl) hfz).mono ?_
      rintro e w' ⟨rfl, rfl⟩
      rw [setCell_eq_setRow w b 0 _ _ _ _ hb]
      have hrow := setRow_heap w b _ (#[Value.pointer none, v2].setIfInBounds 0 (.pointer (some ⟨b, 0, none⟩))) _ _ hb
      have hother : ∀ x, x ≠ b → (w.setRow b (#[Value.pointer none, v2].setIfInBounds 0 (.pointer (some ⟨b, 0, none⟩)))).heap[x]? = w.heap[x]? := fun x hx => setRow_other w b x _ hx
      have hx : Ext w com (w.setRow b (#[Value.pointer none, v2].setIfInBounds 0 (.pointer (some ⟨b, 0, none⟩)))) com := ⟨fun _ => Nat.le_refl _, fun x i hi => by
        have : x ≠ b := fun e => by rw [e, hcb] at hi; cases hi
        unfold World.cell?
        rw [hother x this]⟩
      refine ⟨_, com, .pointer (some ⟨b, 0, none⟩), v2, [], b2, rfl, hx, ⟨rfl, rfl, rfl, by simp [World.setRow], fun x hx' hn => hother x fun e => hn (by rw [e]; simp)⟩, fun x hx' => hfresh x (by simpa [World.setRow] using hx'), fun _ _ _ => rfl, .tup [] [] [] .nil, hrow, hcb, .al _ _ (jnE _ _ _), ?_, rfl, o2, by simpa using hnd, fun x hx' => .inl hx'⟩
      exact r2.keep hx (fun _ _ h => h) fun x hx' => ⟨hother x fun e => (List.nodup_cons.1 hnd).1 (e ▸ hx'), rfl⟩
    · obtain rfl := nqB hc
      obtain ⟨rfl, rfl⟩ := jqd hd
      refine (jgh b w h0).mono ?_
      rintro e w' ⟨rfl, rfl⟩
      exact ⟨_, com, _, v2, [], b2, rfl, Ext.refl _ _, Fr.refl _ _ _, hfresh, fun _ _ _ => rfl, .tup [] [] [] .nil, hb, hcb, .al _ _ (jnE _ _ _), r2, o1, o2, by simpa using hnd, fun x hx' => .inl hx'⟩
  · cases h⟩
abbrev pBy (s : ByteArray) : PV := .sl s.size (jaj s)
theorem job {a b : UInt8} (h : byteP a = byteP b) : a = b := by
  unfold byteP at h
  injection h with _ h
  exact UInt8.toNat_inj.1 (Int.ofNat.inj h)
theorem jeD : ∀ {xs ys : List UInt8}, xs.map byteP = ys.map byteP → xs = ys
  | [], [], _ => rfl
  | [], _ :: _, h => by cases h
  | _ :: _, [], h => by cases h
  | x :: xs, y :: ys, h => by
    rw [List.map_cons, List.map_cons] at h
    injection h with h1 h2
    rw [job h1, jeD h2]
theorem jrL (a b : ByteArray) (h : pBy a = pBy b) : a = b := by
  injection h with _ h
  have := jeD h
  cases a
  cases b
  congr 1
  exact Array.toList_inj.1 this
def shBy (s : ByteArray) : Prop := s.size ≤ 100000000
noncomputable abbrev isBy (p : PV) : Bool := isE pBy shBy p
noncomputable abbrev asBy (p : PV) : ByteArray := asE pBy p
theorem jh0 {s : ByteArray} (h : shBy s) : isE pBy shBy (PV.sl s.size (jaj s)) = true := jiO (enc := pBy) h
theorem jcL (s : ByteArray) : asE pBy (PV.sl s.size (jaj s)) = s := jh9 jrL s
theorem jed (s : ByteArray) : (jaj s).length = s.size := by unfold jaj; rw [List.length_map]; rfl
theorem jgZ (s t : ByteArray) : jaj s ++ jaj t = jaj (s ++ t) := by
  unfold jaj
  rw [← List.map_append]
  congr 1
noncomputable abbrev bldB (s : ByteArray) : List CV := [.al (4 * bldT + 1), .lst 1 5 s.size (jaj s) false]
abbrev bld0 : List CV := [.al (4 * bldT + 3), .pv .nils]
noncomputable def E_bldString : Entry := fun ivs => match ivs with
  | [.box 0 [.al a, .lst 1 e n l false]] => [(Nat.beq e 5 && isBy (.sl n l) && Nat.ble 1 n, cS (asBy (.sl n l)), [[.bad, .bad]])]
  | _ => []
theorem jdc {w : World} {com : Nat → Nat} : ∀ {l : List UInt8} {xs : List Value}, PReps w com xs (l.map byteP) → xs = Lib.byteCells l
  | [], xs, h => h.of_nil
  | c :: l, xs, h => by
    obtain ⟨v, vs, rfl, hv, hvs⟩ := h.of_cons
    have e : v = .int .u8 (c.toNat : Int) := by
      unfold byteP at hv
      cases hv
      rfl
    rw [e, jdc hvs]
    rfl
set_option maxHeartbeats 1000000 in
set_option maxRecDepth 100000 in
theorem jhL (b g cap t : Nat) (p : Value) (l : List UInt8) (cur : Array Value) (fz : Nat × Nat) (w : World) (hbk : w.heap[b]? = some (.cells #[p, .slice (some ⟨g, 0, none⟩) l.length cap] t (0, 0))) (hg : w.heap[g]? = some (.cells cur 5 fz))
    (h0 : l ≠ []) (hn : l.length ≤ cap) (hm : cap ≤ maxLen) (hcs : cur.size = cap) (ht : cur.toList.take l.length = Lib.byteCells l) :
    Calls Tryz.prog 83 #[.pointer (some ⟨b, 0, none⟩)] w fun e w' => e = .returned (.string ⟨l.toArray⟩) ∧ w' = w.drew.freeze ⟨g, 0, none⟩ l.length := by
  have hl0 : l.length ≠ 0 := by simpa using h0
  have c1 : w.drew.cell? ⟨b, 1, none⟩ = some (.slice (some ⟨g, 0, none⟩) l.length cap) := by
    rw [cell_of_row w.drew b 1 _ t (0, 0) hbk]; rfl
  have hSD : (Builtin.unsafeSliceData_ #[45] 176 #[.slice (some ⟨g, 0, none⟩) l.length cap]).run Tryz.prog w.drew = .ok (.pointer (some ⟨g, 0, none⟩)) w.drew :=
    Lib.run_unsafeSliceData_row _ _ _ _ _ _ (by omega)
  have hUS : (Builtin.unsafeString_ #[176, 3] 9 #[.pointer (some ⟨g, 0, none⟩), .int .i64 l.length]).run Tryz.prog w.drew = .ok (.string ⟨l.toArray⟩) (w.drew.freeze ⟨g, 0, none⟩ l.length) := by
    refine Lib.run_unsafeString_row w.drew 176 3 9 5 Tryz.underlying176 (by kernel_rfl) g cur.size (by have hg' : w.drew.heap[g]? = some (.cells cur 5 fz) := hg; simp [World.shape?, hg']) l h0 (by omega) (by unfold maxLen at hm; omega) ?_
    intro j x hx
    have hj : j < l.length := (List.getElem?_eq_some_iff.1 hx).1
    have hadd : (⟨g, 0, none⟩ : Addr).add j = ⟨g, j, none⟩ := by unfold Addr.add; split <;> simp_all
    rw [hadd, cell_of_row w.drew g j cur 5 fz hg]
    have e : (cur.toList.take l.length)[j]? = some (.int .u8 x.toNat) := by rw [ht]; simp [Lib.byteCells, hx]
    rw [List.getElem?_take, if_pos hj] at e
    simpa using e
  go_enter Tryz.func83, Tryz.ntmps83
  go_wp2
  go_region
  all_goals (go_wp2; go_ret; exact ⟨rfl, rfl⟩)
theorem jcu (w : World) (g n x : Nat) (h : x ≠ g) : (w.freeze ⟨g, 0, none⟩ n).heap[x]? = w.heap[x]? := by
  unfold World.freeze
  split
  · rfl
  · simp [Array.getElem?_modify, Ne.symm h]
theorem jj5 (w : World) (g n x i : Nat) : (w.freeze ⟨g, 0, none⟩ n).cell? ⟨x, i, none⟩ = w.cell? ⟨x, i, none⟩ := by
  by_cases h : x = g
  · subst h
    unfold World.freeze
    split
    · rfl
    · unfold World.cell?
      simp only [Array.getElem?_modify, if_true]
      cases hx : w.heap[x]? with
      | none => rfl
      | some o => cases o <;> rfl
  · unfold World.cell?
    rw [jcu w g n x h]
theorem jiP : jac Tryz.prog 83 E_bldString := ⟨⟨_, Tryz.func83, by kernel_rfl, by kernel_rfl⟩, fun ivs res bxs h => by
  unfold E_bldString at h
  split at h
  · rename_i a e n l
    obtain ⟨hc, he⟩ := pick1 h
    cases he
    obtain ⟨hc1, k2⟩ := andE hc
    obtain ⟨k0, k1⟩ := andE hc1
    obtain rfl := nqB k0
    obtain ⟨s, q_s, h_s⟩ := jax k1
    injection q_s with qa qb
    subst qa
    subst qb
    have hn1 : 1 ≤ s.size := Nat.le_of_ble_eq_true k2
    have e_s : asBy (.sl s.size (jaj s)) = s := jcL s
    rw [e_s]
    have hlen : s.data.toList.length = s.size := Array.length_toList
    have hne : s.data.toList ≠ [] := fun e => by rw [e] at hlen; rw [← hlen] at hn1; cases hn1
    refine jdz fun w com b t v1 v2 b1 b2 hb hcb r1 r2 o1 o2 hnd hfresh => ?_
    obtain ⟨hd, rfl⟩ := jrg r1
    rw [List.nil_append] at hnd ⊢
    cases r2 with
    | lst _ _ _ _ _ xs hL =>
      have hxs : xs = Lib.byteCells s.data.toList := jdc (l := s.data.toList) hL.reps
      rcases hL.own.2 with ⟨rfl, h0⟩ | ⟨g, cap, cur, rfl, _, hg, hcap, hmax, hcs, htake⟩
      · omega
      · rw [Nat.mul_one] at hcs htake
        obtain ⟨fz, hg, hf⟩ := hg
        have hbg : b ≠ g := fun e => (List.nodup_cons.1 hnd).1 (by simp [Value.ownBlock, e])
        have hrun := jhL b g cap t v1 s.data.toList cur _ w (by rw [hlen]; exact hb) (by rw [jcE (e := 5) (by decide)] at hg; exact hg) hne (by rw [hlen]; exact hcap) hmax hcs (by rw [hlen, htake, hxs])
        refine hrun.mono ?_
        rintro e w' ⟨rfl, rfl⟩
        have hb0 := Lib.below_freeze (Below.drew (Below.refl 0 w)) (p := ⟨g, 0, none⟩) (Nat.zero_le _) s.data.toList.length
        have hx : Ext w com (w.drew.freeze ⟨g, 0, none⟩ s.data.toList.length) com := ⟨fun _ => Nat.le_refl _, fun x i hi => jj5 w.drew g _ x i⟩
        refine ⟨_, com, v1, .slice (some ⟨g, 0, none⟩) s.size cap, [], [], rfl, hx, ⟨hb0.os, hb0.tape, hb0.output, hb0.size, fun x hx' hn => jcu w.drew g _ x fun e => hn (by rw [e]; simp [Value.ownBlock])⟩, fun x hx' => hfresh x (Nat.le_trans hb0.size hx'), fun _ _ _ => rfl, .one _ _ _ (.cv _ _ _ (.pv _ _ ?_)), (jcu w.drew g _ b hbg).trans hb, hcb, .bad _, .bad _, o1, o2, by simp, by simp⟩
        exact .str s
  · cases h⟩
end
section
open Go.RowKit
noncomputable def vyb0 : List (FuncId × Entry) := [(143, E_copyCheck)]
abbrev lp_ws : List (Nat × List Nat × List Nat) := [(1000000, [], [12])]
noncomputable def q_ws0 (br : Br) (s : ByteArray) := evB br Tryz.prog vyb0 lp_ws LO0 Tryz.f79 [.box 0 bld0, cS s]
noncomputable def q_ws (br : Br) (t s : ByteArray) := evB br Tryz.prog vyb0 lp_ws LO0 Tryz.f79 [.box 0 (bldB t), cS s]
noncomputable def E_bldWrite : Entry := fun ivs => match ivs with
  | [.box 0 [.al a, .pv .nils], .cv (.pv (.str s))] => [(Nat.beq a (4 * bldT + 3) && holds (s.size ≤ 100000000), .tup [cI s.size, .cv .bad], [bldB s])]
  | [.box 0 [.al a, .lst 1 e n l false], .cv (.pv (.str s))] => [(Nat.beq a (4 * bldT + 1) && Nat.beq e 5 && isBy (.sl n l) && holds ((asBy (.sl n l)).size + s.size ≤ 100000000), .tup [cI s.size, .cv .bad], [bldB (asBy (.sl n l) ++ s)])]
  | _ => []
end
section
theorem jso (t : ByteArray) (s : ByteArray) : q_ws brC t s =
 brC (Nat.beq (List.length (jaj s)) (ByteArray.size s * 1) && (decide (ByteArray.size t + ByteArray.size s ≤ 140737488351232) && decide ((ByteArray.size t + ByteArray.size s) * 1 ≤ 140737488355328)))
 (some ((.tup [.cv (.pv (.int .i64 (↑(ByteArray.size s) : Int))), .cv .bad], [[.al 473, .lst 1 5 (ByteArray.size t + ByteArray.size s) (jaj t ++ jaj s) false]])))
 none := by kernel_rfl
theorem jqi (s : ByteArray) : q_ws0 brC s =
 brC (Nat.beq (List.length (jaj s)) (ByteArray.size s * 1) && (decide (ByteArray.size s ≤ 140737488351232) && decide (ByteArray.size s * 1 ≤ 140737488355328)))
 (some ((.tup [.cv (.pv (.int .i64 (↑(ByteArray.size s) : Int))), .cv .bad], [[.al 473, .lst 1 5 (ByteArray.size s) (jaj s) false]])))
 none := by kernel_rfl
end
section
open Go.RowKit
theorem jsT : jaf Tryz.prog vyb0 := ⟨jip, trivial⟩
theorem jgP (s : ByteArray) : Nat.beq (jaj s).length (s.size * 1) = true := by rw [jed, Nat.mul_one]; exact Nat.beq_refl _
theorem jjO : jac Tryz.prog 79 E_bldWrite := jad mix jsT (lp := lp_ws) (LO := LO0) ⟨Tryz.func79, by kernel_rfl, by kernel_rfl⟩ (by kernel_rfl) fun ivs res bxs h => by
  unfold E_bldWrite at h
  split at h
  · rename_i a s
    obtain ⟨hc, he⟩ := pick1 h
    cases he
    obtain ⟨k0, k1⟩ := andE hc
    obtain rfl := nqB k0
    have k1 := jai k1
    refine ⟨jar (by kernel_rfl), (jqi s).trans ?_⟩
    rw [jgP, dT (show s.size ≤ 140737488351232 by omega), dT (show s.size * 1 ≤ 140737488355328 by omega)]
    rfl
  · rename_i a e n l s
    obtain ⟨hc, he⟩ := pick1 h
    cases he
    obtain ⟨hc, k3⟩ := andE hc
    obtain ⟨hc, k2⟩ := andE hc
    obtain ⟨k0, k1⟩ := andE hc
    obtain rfl := nqB k0
    obtain rfl := nqB k1
    obtain ⟨t, q_t, h_t⟩ := jax k2
    injection q_t with qa qb
    subst qa
    subst qb
    have e_t : asBy (.sl t.size (jaj t)) = t := jcL t
    rw [e_t] at k3 ⊢
    have k3 := jai k3
    refine ⟨jar (by kernel_rfl), (jso t s).trans ?_⟩
    rw [jgP, dT (show t.size + s.size ≤ 140737488351232 by omega), dT (show (t.size + s.size) * 1 ≤ 140737488355328 by omega), jgZ, show t.size + s.size = (t ++ s).size from ByteArray.size_append.symm]
    rfl
  · cases h
end
section
open Go.RowKit
noncomputable def jaI (s : ByteArray) : ByteArray := hidS (litV (s.size : Int) 1 ++ s)
noncomputable def kcb3 : List (FuncId × Entry) := [(80, E_little)]
noncomputable def js3 (br : Br) (s : ByteArray) := evB br Tryz.prog kcb3 [] LO0 Tryz.f115 [cS s]
noncomputable def E_short : Entry := fun ivs => match ivs with
  | [.cv (.pv (.str s))] => [(decide (s.size ≤ 1000000), cS (jaI s), [])]
  | _ => []
noncomputable def jts (br : Br) (n : Int) := evB br Tryz.prog [] [] LO0 Tryz.f87 [cI n]
noncomputable def E_byte : Entry := fun ivs => match ivs with
  | [.cv (.pv (.int .i64 n))] => [(decide (0 ≤ n), cS (litV n 1), [])]
  | _ => []
noncomputable def kcb4 : List (FuncId × Entry) := [(87, E_byte)]
noncomputable def jr8 (br : Br) (s : ByteArray) := evB br Tryz.prog kcb4 [] LO0 Tryz.f88 [cS s]
noncomputable abbrev aBl (slot : Nat) (s : ByteArray) : AV × Option Ob := aBx slot (bldB s)
end
section
theorem jna (s : ByteArray) : jr8 brC s =
 brC (decide (ByteArray.size (litV (↑(ByteArray.size s) : Int) 1) + ByteArray.size s ≤ 9223372036854775807) && true)
 (some ((.cv (.pv (.str (litV (↑(ByteArray.size s) : Int) 1 ++ s))), [])))
 none := by kernel_rfl
theorem jmF (s : ByteArray) : js3 brC s =
 brC (decide (ByteArray.size (litV (↑(ByteArray.size s) : Int) 1) + ByteArray.size s ≤ 9223372036854775807) && true)
 (some ((.cv (.pv (.str (litV (↑(ByteArray.size s) : Int) 1 ++ s))), [])))
 none := by kernel_rfl
theorem jpq (n : Int) : jts brC n =
 some ((.cv (.pv (.str { data := #[UInt8.ofNat (Int.toNat (IntKind.wrap .u8 n))] })), [])) := by kernel_rfl
end
section
open Go.RowKit
theorem jaB (n : Int) (k : Nat) : (litV n k).size = k := by
  rw [jht]
  exact (jrK _).trans (jlS k _)
theorem jhS (a : ByteArray) : (⟨#[]⟩ : ByteArray) ++ a = a := by
  apply ByteArray.ext
  rw [ByteArray.data_append]
  exact Array.empty_append
theorem jpw (a : ByteArray) : a ++ (⟨#[]⟩ : ByteArray) = a := by
  apply ByteArray.ext
  rw [ByteArray.data_append]
  exact Array.append_empty
theorem jdS (s : ByteArray) : jaI s = litV (s.size : Int) 1 ++ s := jci _
theorem jbn (s : ByteArray) : (jaI s).size = s.size + 1 := by rw [jdS, ByteArray.size_append, jaB]; omega
theorem jsi : jaf Tryz.prog kcb3 := ⟨jja, trivial⟩
theorem jqB : jac Tryz.prog 115 E_short := jad mix jsi (lp := []) (LO := LO0) ⟨Tryz.func115, by kernel_rfl, by kernel_rfl⟩ (by kernel_rfl) fun ivs res bxs h => by
  unfold E_short at h
  split at h
  · rename_i s
    obtain ⟨hc, he⟩ := pick1 h
    cases he
    have hs := of_decide_eq_true hc
    refine ⟨jar (by kernel_rfl), (jmF s).trans ?_⟩
    rw [jaB, dT (show 1 + s.size ≤ 9223372036854775807 by omega), jdS]
    rfl
  · cases h
theorem jnD : jac Tryz.prog 87 E_byte := jad mix (tab := []) trivial (lp := []) (LO := LO0) ⟨Tryz.func87, by kernel_rfl, by kernel_rfl⟩ (by kernel_rfl) fun ivs res bxs h => by
  unfold E_byte at h
  split at h
  · rename_i n
    obtain ⟨hc, he⟩ := pick1 h
    cases he
    have hn := of_decide_eq_true hc
    obtain ⟨k, rfl⟩ : ∃ k : Nat, n = (k : Int) := ⟨n.toNat, by omega⟩
    refine ⟨jar (by kernel_rfl), (jpq k).trans ?_⟩
    rw [u8w, Int.toNat_natCast, UInt8.ofNat_toNat, jht]
    rfl
  · cases h
theorem jrJ : jaf Tryz.prog kcb4 := ⟨jnD, trivial⟩
theorem jqm : jac Tryz.prog 88 E_short := jad mix jrJ (lp := []) (LO := LO0) ⟨Tryz.func88, by kernel_rfl, by kernel_rfl⟩ (by kernel_rfl) fun ivs res bxs h => by
  unfold E_short at h
  split at h
  · rename_i s
    obtain ⟨hc, he⟩ := pick1 h
    cases he
    have hs := of_decide_eq_true hc
    refine ⟨jar (by kernel_rfl), (jna s).trans ?_⟩
    rw [jaB, dT (show 1 + s.size ≤ 9223372036854775807 by omega), jdS]
    rfl
  · cases h
theorem jd4 (s : ByteArray) (xs : List ByteArray) : (keyV2 s xs).size ≤ 300 := by
  rw [jdH]
  by_cases h : jaG s xs = true
  · rw [if_pos h, ja5]; exact jnQ h
  · rw [if_neg h]; exact Nat.zero_le _
end
section
open Go.RowKit
structure RdT where
  r : ByteArray
  b : Bool
  im : ImT
noncomputable def kName (a : ByteArray) : ByteArray := bif holds (isKy a) then (deKy a).1 else ⟨#[]⟩
noncomputable def kSubs (a : ByteArray) : List ByteArray := bif holds (isKy a) then (deKy a).2 else []
def t1S (r : ByteArray) : ByteArray := tkS (tkR r 1) (oneV r).toNat
def t1R (r : ByteArray) : ByteArray := tkR (tkR r 1) (oneV r).toNat
def t1B (r : ByteArray) (b : Bool) : Bool := tkB (tkR r 1) (tkB r b 1) (oneV r).toNat
def r3 (r : ByteArray) : ByteArray := tkR (t1R r) 1
def b3 (r : ByteArray) (b : Bool) : Bool := tkB (t1R r) (t1B r b) 1
abbrev aRd (slot : Nat) (r : ByteArray) (b : Bool) : AV × Option Ob := aBx slot (rdr r b)
end
end Go.Proofs.YtobhacnimkccmaaGreatDoor
