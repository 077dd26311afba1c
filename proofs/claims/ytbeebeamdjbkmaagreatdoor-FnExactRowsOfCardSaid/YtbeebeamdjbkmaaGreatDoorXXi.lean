import Derived.Test.YtbeebeamdjbkmaaGreatDoorXXh
import Derived.Lib.Split
import Derived.Lib.Join
import Derived.Test.YtbeebeamdjbkmaaGreatDoorXXg
import Derived.Lib.SplitLaws
import Derived.Test.YtbeebeamdjbkmaaGreatDoorXXf
namespace Go.Proofs.YtbeebeamdjbkmaaGreatDoor
noncomputable section
set_option linter.unusedVariables false
set_option linter.unusedSimpArgs false
set_option maxRecDepth 100000
section
open Go.RowKit
theorem jr6 : jab Tryz.prog 125 E_icell := ⟨⟨_, Tryz.func125, by kernel_rfl, by kernel_rfl⟩, fun ivs res bxs h => by
 unfold E_icell at h
 split at h
 ·rename_i s
  obtain ⟨hc, he⟩ := pick1 h
  cases he
  have hc := nqI hc
  refine jaC (ps := [.str s]) (v := .bool (cellB s)) rfl fun w com vals hv _ hgl => ?_
  obtain ⟨v, vs, rfl, hv1, hn⟩ := hv.of_cons
  rw [hn.of_nil]
  cases hv1
  exact jl2 s w (by omega)
 ·cases h⟩
theorem PRep.row {w : World} {com : Nat → Nat} {v : Value} {xs : List ByteArray} (h : PRep w com v (pL xs)) (hf : ∀ b, w.heap.size ≤ b → com b = 0) : ∃ a c, v = .slice a xs.length c ∧ RowAt w w.heap.size a (jap xs) := by
 cases xs with
 | nil =>
  cases h with
  | sl0 a c => exact ⟨a, c, rfl, fun h => absurd h (by simp [jap])⟩
  | sl b off n cap cs l hnc hl h1 hcm hm he => exact ⟨_, _, rfl, fun h => absurd h (by simp [jap])⟩
 | cons y ys =>
  cases h with
  | sl b off _ cap cs _ hnc hl h1 hcm hm he =>
   refine ⟨_, _, rfl, fun _ => ⟨b, off, rfl, ?_, ?_⟩⟩
   ·rcases Nat.lt_or_ge b w.heap.size with h | h
    ·exact h
    ·have := hcm 0 (by simp)
     rw [hf b h] at this
     exact absurd this (Nat.not_lt_zero _)
   ·intro i v hv
    have hi : i < (y :: ys).length := by
     have := (List.getElem?_eq_some_iff.1 hv).1
     simpa [jap] using this
    have hlen : cs.length = (y :: ys).length := by rw [hl, List.length_map]
    have hj : i < cs.length := by rw [hlen]; exact hi
    have hj' : i < ((y :: ys).map PV.str).length := by rw [List.length_map]; exact hi
    have hp := he i hj hj'
    rw [List.getElem_map] at hp
    have hc := hm i cs[i] (List.getElem?_eq_getElem hj)
    rw [hc]
    have hv' : v = .string (y :: ys)[i] := by
     have : (jap (y :: ys))[i]? = some (.string (y :: ys)[i]) := by
      unfold jap
      rw [List.getElem?_map, List.getElem?_eq_getElem hi]
      rfl
     rw [this] at hv
     exact (Option.some.inj hv).symm
    rw [hv']
    generalize cs[i] = u at hp
    cases hp
    rfl
theorem jtG : jab Tryz.prog 105 E_dist := ⟨⟨_, Tryz.func105, by kernel_rfl, by kernel_rfl⟩, fun ivs res bxs h => by
 unfold E_dist at h
 split at h
 ·rename_i p
  obtain ⟨hc, he⟩ := pick1 h
  cases he
  obtain ⟨xs, rfl, hx⟩ := jai hc
  have e4 : asL (pL xs) = xs := jah xs
  rw [e4]
  refine jaC (ps := [pL xs]) (v := .bool (jcO xs)) rfl fun w com vals hv hfr hgl => ?_
  obtain ⟨v, vs, rfl, hv1, hn⟩ := hv.of_cons
  rw [hn.of_nil]
  obtain ⟨a, c, rfl, hr⟩ := hv1.row hfr
  have hl := hx.1
  exact jil xs a c (jcO xs) (by unfold jcO; congr) w (by omega) hr
 ·cases h⟩
theorem jrh : jab Tryz.prog 104 E_count := jac mix (tab := []) trivial (lp := []) (LO := LO0) ⟨Tryz.func104, by kernel_rfl, by kernel_rfl⟩ (by kernel_rfl) fun ivs res bxs h => by
 unfold E_count at h
 split at h
 ·rename_i p
  obtain ⟨hc, he⟩ := pick1 h
  cases he
  obtain ⟨xs, rfl, hx⟩ := jai hc
  have e4 : asL (pL xs) = xs := jah xs
  rw [e4]
  exact ⟨jao (by kernel_rfl), jmE xs⟩
 ·cases h
theorem jhW : jad Tryz.prog pab0 := ⟨jgR, jr6, trivial⟩
theorem jrz : jab Tryz.prog 107 E_cloTa := jac mix jhW (lp := []) (LO := LO0) ⟨Tryz.func107, by kernel_rfl, by kernel_rfl⟩ (by kernel_rfl) fun ivs res bxs h => by
 unfold E_cloTa at h
 split at h
 ·rename_i s
  obtain ⟨hc, he⟩ := pick1 h
  cases he
  refine ⟨jao (by kernel_rfl), (jm2 s).trans ?_⟩
  rw [hc]
  rfl
 ·cases h
theorem jqO : jab Tryz.prog 124 E_cloRb := jac mix jhW (lp := []) (LO := LO0) ⟨Tryz.func124, by kernel_rfl, by kernel_rfl⟩ (by kernel_rfl) fun ivs res bxs h => by
 unfold E_cloRb at h
 split at h
 ·rename_i s
  obtain ⟨hc, he⟩ := pick1 h
  cases he
  refine ⟨jao (by kernel_rfl), (jmk s).trans ?_⟩
  rw [hc]
  rfl
 ·cases h
theorem jg8 : jad Tryz.prog pab1 := ⟨jrz, jqO, jhW⟩
theorem jm8 (xs : List ByteArray) (hx : shL xs) : ∀ (m i : Nat), m + i = xs.length → LoopsTo (rdB brC Tryz.prog pab1 ja4 jdx Tryz.f133 2 []) [aP (pL xs), aP (.clo 107 []), aI xs.length, aI i]
  (if jaJ (xs.drop i) + i < xs.length then (.ret, [aI ((jaJ (xs.drop i) + i : Nat) : Int)]) else (.exit 0, [aX])) := by
 have hl := hx.1
 intro m
 induction m with
 | zero =>
  intro i hm
  obtain rfl : i = xs.length := by omega
  rw [List.drop_length, show jaJ [] = 0 from rfl, if_neg (by omega)]
  refine .done _ _ ((jgA xs xs.length).trans ?_)
  rw [dF (by omega)]
  rfl
 | succ m ih =>
  intro i hm
  have hi : i < xs.length := by omega
  have ih' := ih (i + 1) (by omega)
  have tree := jgA xs i
  simp (disch := omega) only [show decide ((i : Int) < (xs.length : Int)) = true from dT (by omega), show decide (0 ≤ (i : Int)) = true from dT (by omega), nqF, jas xs i hi, nqH, List.headD_cons, PV.isStr, PV.asStr, blt0, wrap1, Bool.and_true, Bool.true_and] at tree
  have hsz := hx.2 xs[i] (List.getElem_mem hi)
  rw [dT hsz] at tree
  rw [nqK hi]
  cases hin : (!nameB xs[i]) with
  | true =>
   rw [hin] at tree
   rw [show jaJ (xs[i] :: xs.drop (i + 1)) = 0 from jf5 (p := fun x : ByteArray => !nameB x) hin, Nat.zero_add, if_pos hi]
   exact .done _ _ tree
  | false =>
   rw [hin] at tree
   rw [show jaJ (xs[i] :: xs.drop (i + 1)) = jaJ (xs.drop (i + 1)) + 1 from jdr (p := fun x : ByteArray => !nameB x) hin]
   have e : jaJ (xs.drop (i + 1)) + (i + 1) = jaJ (xs.drop (i + 1)) + 1 + i := by omega
   rw [e] at ih'
   exact .step _ _ _ tree ih'
theorem jrc : jab Tryz.prog 133 E_IdxTa := jac mix jg8 (lp := ja4) (LO := jdx) ⟨Tryz.func133, by kernel_rfl, by kernel_rfl⟩ (by kernel_rfl) fun ivs res bxs h => by
 unfold E_IdxTa at h
 split at h
 ·rename_i p f
  obtain ⟨hc, he⟩ := pick1 h
  cases he
  rw [nqE] at hc
  obtain ⟨xs, rfl, hx⟩ := jai hc.1
  obtain rfl := nqB hc.2
  refine ⟨jar 2 (by kernel_rfl) (by kernel_rfl) (by kernel_rfl) ?_, (jni xs).trans ?_⟩
  ·intro ls e ls' hl
   unfold jdx at hl
   split at hl
   ·rename_i p f n i
    cases hg : (isL p && Nat.beq f 107 && (n == ((asL p).length : Int)) && (i == 0)) with
    | false => rw [hg] at hl; simp only [pickA, Bool.false_and, cond_false] at hl; cases hl
    | true =>
     rw [hg, Bool.true_and] at hl
     simp only [nqE, beq_iff_eq] at hg
     obtain ⟨⟨⟨g1, g3⟩, g4⟩, g5⟩ := hg
     obtain ⟨ys, rfl, hy⟩ := jai g1
     simp only [jah] at hl g4
     rw [nqB g3, g4, g5]
     have := jm8 ys hy ys.length 0 (by omega)
     rw [List.drop_zero, Nat.add_zero] at this
     by_cases hlt : jaJ ys < ys.length
     ·rw [dT hlt] at hl
      rw [if_pos hlt] at this
      cases hl
      exact this
     ·rw [dF hlt] at hl
      rw [if_neg hlt] at this
      cases hl
      exact this
   ·cases hl
  ·have e4 : asL (pL xs) = xs := jah xs
   rw [e4]
   simp only [jal hx, jah, isL, beq_self_eq_true, Bool.and_true, Bool.true_and, Nat.beq_refl]
   by_cases hlt : jaJ xs < xs.length
   ·rw [dT hlt, if_pos hlt]
    rfl
   ·rw [dF hlt, if_neg hlt]
    rfl
 ·cases h
theorem jp4 : jad Tryz.prog pab2Ta := ⟨jrc, jg8⟩
theorem jji : jab Tryz.prog 106 E_ContTa := jac mix jp4 (lp := []) (LO := LO0) ⟨Tryz.func106, by kernel_rfl, by kernel_rfl⟩ (by kernel_rfl) fun ivs res bxs h => by
 unfold E_ContTa at h
 split at h
 ·rename_i p f
  obtain ⟨hc, he⟩ := pick1 h
  cases he
  rw [nqE] at hc
  obtain ⟨xs, rfl, hx⟩ := jai hc.1
  obtain rfl := nqB hc.2
  refine ⟨jao (by kernel_rfl), (jjC xs).trans ?_⟩
  have e4 : asL (pL xs) = xs := jah xs
  rw [e4]
  simp only [jal hx, jah, isL, ifIdx]
  rfl
 ·cases h
theorem jmb (xs : List ByteArray) (hx : shL xs) : ∀ (m i : Nat), m + i = xs.length → LoopsTo (rdB brC Tryz.prog pab1 ja4 jdA Tryz.f133 2 []) [aP (pL xs), aP (.clo 124 []), aI xs.length, aI i]
  (if jaH (xs.drop i) + i < xs.length then (.ret, [aI ((jaH (xs.drop i) + i : Nat) : Int)]) else (.exit 0, [aX])) := by
 have hl := hx.1
 intro m
 induction m with
 | zero =>
  intro i hm
  obtain rfl : i = xs.length := by omega
  rw [List.drop_length, show jaH [] = 0 from rfl, if_neg (by omega)]
  refine .done _ _ ((jgQ xs xs.length).trans ?_)
  rw [dF (by omega)]
  rfl
 | succ m ih =>
  intro i hm
  have hi : i < xs.length := by omega
  have ih' := ih (i + 1) (by omega)
  have tree := jgQ xs i
  simp (disch := omega) only [show decide ((i : Int) < (xs.length : Int)) = true from dT (by omega), show decide (0 ≤ (i : Int)) = true from dT (by omega), nqF, jas xs i hi, nqH, List.headD_cons, PV.isStr, PV.asStr, blt0, wrap1, Bool.and_true, Bool.true_and] at tree
  have hsz := hx.2 xs[i] (List.getElem_mem hi)
  rw [dT hsz] at tree
  rw [nqK hi]
  cases hin : (!cellB xs[i]) with
  | true =>
   rw [hin] at tree
   rw [show jaH (xs[i] :: xs.drop (i + 1)) = 0 from jf5 (p := fun x : ByteArray => !cellB x) hin, Nat.zero_add, if_pos hi]
   exact .done _ _ tree
  | false =>
   rw [hin] at tree
   rw [show jaH (xs[i] :: xs.drop (i + 1)) = jaH (xs.drop (i + 1)) + 1 from jdr (p := fun x : ByteArray => !cellB x) hin]
   have e : jaH (xs.drop (i + 1)) + (i + 1) = jaH (xs.drop (i + 1)) + 1 + i := by omega
   rw [e] at ih'
   exact .step _ _ _ tree ih'
theorem jr5 : jab Tryz.prog 133 E_IdxRb := jac mix jg8 (lp := ja4) (LO := jdA) ⟨Tryz.func133, by kernel_rfl, by kernel_rfl⟩ (by kernel_rfl) fun ivs res bxs h => by
 unfold E_IdxRb at h
 split at h
 ·rename_i p f
  obtain ⟨hc, he⟩ := pick1 h
  cases he
  rw [nqE] at hc
  obtain ⟨xs, rfl, hx⟩ := jai hc.1
  obtain rfl := nqB hc.2
  refine ⟨jar 2 (by kernel_rfl) (by kernel_rfl) (by kernel_rfl) ?_, (jmM xs).trans ?_⟩
  ·intro ls e ls' hl
   unfold jdA at hl
   split at hl
   ·rename_i p f n i
    cases hg : (isL p && Nat.beq f 124 && (n == ((asL p).length : Int)) && (i == 0)) with
    | false => rw [hg] at hl; simp only [pickA, Bool.false_and, cond_false] at hl; cases hl
    | true =>
     rw [hg, Bool.true_and] at hl
     simp only [nqE, beq_iff_eq] at hg
     obtain ⟨⟨⟨g1, g3⟩, g4⟩, g5⟩ := hg
     obtain ⟨ys, rfl, hy⟩ := jai g1
     simp only [jah] at hl g4
     rw [nqB g3, g4, g5]
     have := jmb ys hy ys.length 0 (by omega)
     rw [List.drop_zero, Nat.add_zero] at this
     by_cases hlt : jaH ys < ys.length
     ·rw [dT hlt] at hl
      rw [if_pos hlt] at this
      cases hl
      exact this
     ·rw [dF hlt] at hl
      rw [if_neg hlt] at this
      cases hl
      exact this
   ·cases hl
  ·have e4 : asL (pL xs) = xs := jah xs
   rw [e4]
   simp only [jal hx, jah, isL, beq_self_eq_true, Bool.and_true, Bool.true_and, Nat.beq_refl]
   by_cases hlt : jaH xs < xs.length
   ·rw [dT hlt, if_pos hlt]
    rfl
   ·rw [dF hlt, if_neg hlt]
    rfl
 ·cases h
theorem jnR : jad Tryz.prog pab2Rb := ⟨jr5, jg8⟩
theorem joW : jab Tryz.prog 106 E_ContRb := jac mix jnR (lp := []) (LO := LO0) ⟨Tryz.func106, by kernel_rfl, by kernel_rfl⟩ (by kernel_rfl) fun ivs res bxs h => by
 unfold E_ContRb at h
 split at h
 ·rename_i p f
  obtain ⟨hc, he⟩ := pick1 h
  cases he
  rw [nqE] at hc
  obtain ⟨xs, rfl, hx⟩ := jai hc.1
  obtain rfl := nqB hc.2
  refine ⟨jao (by kernel_rfl), (jjY xs).trans ?_⟩
  have e4 : asL (pL xs) = xs := jah xs
  rw [e4]
  simp only [jal hx, jah, isL, ifIdx]
  rfl
 ·cases h
theorem jn8 : jab Tryz.prog 106 E_ContAB := ⟨jji.1, fun ivs res bxs h => by
 unfold E_ContAB at h
 split at h
 ·rename_i p f
  rcases pick2 h with ⟨hc, he⟩ | ⟨hc1, hc, he⟩
  ·cases he
   refine jji.2 _ _ _ ?_
   unfold E_ContTa
   dsimp only
   rw [hc]
   rfl
  ·cases he
   refine joW.2 _ _ _ ?_
   unfold E_ContRb
   dsimp only
   rw [hc]
   rfl
 ·cases h⟩
theorem jpn : jad Tryz.prog pab3 := ⟨jnJ, jrh, jtG, jn8, jqm, jhW⟩
theorem jfH {α : Type} {p : α → Bool} (xs : List α) : decide (idxW (fun x => !p x) xs < xs.length) = !xs.all p := by
 induction xs with
 | nil => rfl
 | cons x xs ih =>
  rw [List.all_cons]
  cases hp : p x with
  | false =>
   rw [jf5 (p := fun x => !p x) (by rw [hp]; rfl)]
   simp
  | true =>
   rw [jdr (p := fun x => !p x) (by rw [hp]; rfl), nqH, Bool.true_and, ← ih]
   exact decide_eq_decide.2 (by omega)
theorem jqK (s g : ByteArray) (xs zs : List ByteArray) (q : PV) (hx : shL xs) (hz : shL zs) : ∀ (m i : Nat) (a : Int), m + i = zs.length → LoopsTo (rdB brC Tryz.prog pab3 jlP jh8 Tryz.f73 7 []) [aBx 1 [.pv (.str s), .pv (.str g), .pv (pL xs), .pv q], aI a, aP (pL zs), aI zs.length, aI i]
  (if idxB xs (zs.drop i) a = true then (.exit 0, [aX]) else (.ret, [aB false])) := by
 have hl := hz.1
 intro m
 induction m with
 | zero =>
  intro i a hm
  obtain rfl : i = zs.length := by omega
  rw [List.drop_length]
  refine .done _ _ ((jk2 s g xs zs q a zs.length zs.length).trans ?_)
  rw [dF (by omega)]
  rfl
 | succ m ih =>
  intro i a hm
  have hi : i < zs.length := by omega
  have ih' := ih (i + 1) (posS xs zs[i]) (by omega)
  have tree := jk2 s g xs zs q a zs.length i
  have e1 : isL (PV.sl xs.length (xs.map .str)) = true := jal hx
  have e2 : asL (PV.sl xs.length (xs.map .str)) = xs := jah xs
  simp (disch := omega) only [show decide ((i : Int) < (zs.length : Int)) = true from dT (by omega), show decide (0 ≤ (i : Int)) = true from dT (by omega), nqF, jas zs i hi, nqH, List.headD_cons, PV.isStr, PV.asStr, blt0, wrap1, Bool.and_true, Bool.true_and, e1, e2] at tree
  rw [nqK hi]
  have ep : (if jaw xs zs[i] < xs.length then ((jaw xs zs[i] : Nat) : Int) else -1) = posS xs zs[i] := rfl
  rw [ep] at tree
  show LoopsTo _ _ (if (decide (a < posS xs zs[i]) && idxB xs (zs.drop (i + 1)) (posS xs zs[i])) = true then _ else _)
  by_cases hp : posS xs zs[i] ≤ a
  ·rw [dT hp] at tree
   rw [dF (show ¬ a < posS xs zs[i] by omega), Bool.false_and, if_neg Bool.false_ne_true]
   exact .done _ _ tree
  ·rw [dF hp] at tree
   rw [dT (show a < posS xs zs[i] by omega), Bool.true_and]
   exact .step _ _ _ tree ih'
def E_ITb : Entry := fun ivs => match ivs with | [.cv (.pv p)] => [(isTb p, cB (tblB (asTb p)), [])] | _ => []
theorem jsx : jab Tryz.prog 73 E_ITb := jac mix jpn (lp := jlP) (LO := jh8) ⟨Tryz.func73, by kernel_rfl, by kernel_rfl⟩ (by kernel_rfl) fun ivs res bxs h => by
 unfold E_ITb at h
 split at h
 ·rename_i p
  obtain ⟨hc, he⟩ := pick1 h
  cases he
  obtain ⟨b, rfl, hb⟩ := jaz hc
  obtain ⟨b1, b2, b3, b4⟩ := hb
  have e4 : asTb (pTb b) = b := jan b
  rw [e4]
  refine ⟨jar 7 (by kernel_rfl) (by kernel_rfl) (by kernel_rfl) ?_, (jrP b).trans ?_⟩
  ·intro ls e ls' hl
   unfold jh8 at hl
   split at hl
   ·rename_i x s g p q a r n i
    cases hg : (isL p && isL r && (n == ((asL r).length : Int)) && (a == 0) && (i == 0) && Nat.beq x 4096) with
    | false => rw [hg] at hl; simp only [pickA, Bool.false_and, cond_false] at hl; cases hl
    | true =>
     rw [hg, Bool.true_and] at hl
     simp only [nqE, beq_iff_eq] at hg
     obtain ⟨⟨⟨⟨⟨g1, g2⟩, g3⟩, g4⟩, g5⟩, g6⟩ := hg
     obtain ⟨xs, rfl, hx⟩ := jai g1
     obtain ⟨zs, rfl, hz⟩ := jai g2
     have e1 : asL (pL xs) = xs := jah xs
     have e2 : asL (pL zs) = zs := jah zs
     rw [e1, e2] at hl
     rw [e2] at g3
     have := jqK s g xs zs q hx hz zs.length 0 0 (by omega)
     rw [List.drop_zero] at this
     rw [g3, g4, g5, nqB g6]
     cases hB : idxB xs zs 0 with
     | true =>
      rw [hB] at hl this
      cases hl
      exact this
     | false =>
      rw [hB] at hl this
      cases hl
      exact this
   ·cases hl
  ·have e1 : isL (PV.sl b.cols.length (b.cols.map .str)) = true := jal b3
   have e2 : asL (PV.sl b.cols.length (b.cols.map .str)) = b.cols := jah b.cols
   have e3 : isL (pL b.idxs) = true := jal b4
   have e5 : asL (pL b.idxs) = b.idxs := jah b.idxs
   have e6 : isL (pL b.cols) = true := jal b3
   have e7 : asL (pL b.cols) = b.cols := jah b.cols
   have hA : decide (jaJ b.cols < b.cols.length) = !b.cols.all nameB := jfH (p := nameB) b.cols
   simp only [e1, e2, e3, e5, e6, e7, dT b1, dT b2, hA, beq_self_eq_true, Bool.and_true, Bool.true_and]
   have l1 : decide ((1 : Int) ≤ (b.cols.length : Int)) = decide (1 ≤ b.cols.length) := decide_eq_decide.2 (by omega)
   have l2 : decide ((b.cols.length : Int) ≤ 5) = decide (b.cols.length ≤ 5) := decide_eq_decide.2 (by omega)
   rw [l1, l2]
   unfold tblB
   cases nameB b.name <;> cases nameB b.glob <;> cases decide (1 ≤ b.cols.length) <;> cases decide (b.cols.length ≤ 5) <;> cases jcO b.cols <;> cases b.cols.all nameB <;> cases idxB b.cols b.idxs 0 <;> rfl
 ·cases h
end
section
theorem jit {s sub : List UInt8} : ∀ {i : Nat}, Lib.index s sub = (i : Int) → Lib.occAt s sub i = true ∧ i ≤ s.length := by
 induction s with
 | nil =>
  intro i h
  unfold Lib.index at h
  split at h
  ·rename_i hs
   have : i = 0 := by omega
   subst this
   exact ⟨by unfold Lib.occAt; cases sub <;> simp_all, by simp⟩
  ·omega
 | cons b l ih =>
  intro i h
  unfold Lib.index at h
  split at h
  ·rename_i hs
   have : i = 0 := by omega
   subst this
   exact ⟨by unfold Lib.occAt; simpa using hs, by simp⟩
  ·split at h
   ·omega
   ·rename_i h2
    have hge := Lib.index_ge l sub
    have hne : Lib.index l sub ≠ -1 := fun e => h2 (by rw [e]; rfl)
    obtain ⟨j, hj⟩ : ∃ j : Nat, Lib.index l sub = (j : Int) := ⟨(Lib.index l sub).toNat, by omega⟩
    have : i = j + 1 := by omega
    subst this
    obtain ⟨h3, h4⟩ := ih hj
    refine ⟨?_, by simp; omega⟩
    unfold Lib.occAt at h3 ⊢
    simpa using h3
theorem jqU {s sub : List UInt8} {i : Nat} (h : Lib.occAt s sub i = true) : s.take i ++ (sub ++ s.drop (i + sub.length)) = s := by
 unfold Lib.occAt at h
 have hp := List.isPrefixOf_iff_prefix.1 h
 obtain ⟨t, ht⟩ := hp
 have h2 : s.drop (i + sub.length) = t := by
  rw [← List.drop_drop, ← ht, List.drop_left]
 rw [h2, ht, List.take_append_drop]
theorem jhw {s sub : List UInt8} (h : ∀ j, Lib.occAt s sub j = false) : Lib.index s sub = -1 := by
 have hge := Lib.index_ge s sub
 by_cases hn : Lib.index s sub = -1
 ·exact hn
 ·obtain ⟨j, hj⟩ : ∃ j : Nat, Lib.index s sub = (j : Int) := ⟨(Lib.index s sub).toNat, by omega⟩
  have := (jit hj).1
  rw [h j] at this
  cases this
theorem jfE {s sub : List UInt8} : ∀ {i : Nat}, Lib.index s sub = (i : Int) → ∀ j, j < i → Lib.occAt s sub j = false := by
 induction s with
 | nil =>
  intro i h j hj
  unfold Lib.index at h
  split at h <;> omega
 | cons b l ih =>
  intro i h j hj
  unfold Lib.index at h
  split at h
  ·omega
  ·rename_i hs
   split at h
   ·omega
   ·rename_i h2
    have hge := Lib.index_ge l sub
    have hne : Lib.index l sub ≠ -1 := fun e => h2 (by rw [e]; rfl)
    obtain ⟨m, hm⟩ : ∃ m : Nat, Lib.index l sub = (m : Int) := ⟨(Lib.index l sub).toNat, by omega⟩
    cases j with
    | zero => unfold Lib.occAt; rw [List.drop_zero]; exact Bool.eq_false_iff.2 hs
    | succ j =>
     have := ih hm j (by omega)
     unfold Lib.occAt at this ⊢
     simpa using this
theorem jl7 {s sub : List UInt8} {i : Nat} (hsub : sub ≠ []) (h : Lib.index s sub = (i : Int)) : Lib.index (s.take i) sub = -1 := by
 apply jhw
 intro j
 cases hj : Lib.occAt (s.take i) sub j with
 | false => rfl
 | true =>
  unfold Lib.occAt at hj
  obtain ⟨t, ht⟩ := List.isPrefixOf_iff_prefix.1 hj
  have hl := congrArg List.length ht
  rw [nqG, List.length_drop, List.length_take] at hl
  have hpos : 0 < sub.length := List.length_pos_iff.2 hsub
  have hji : j < i := by omega
  have := jfE h j hji
  unfold Lib.occAt at this
  have h2 : sub.isPrefixOf (s.drop j) = true := by
   apply List.isPrefixOf_iff_prefix.2
   have h3 : (s.take i).drop j <+: s.drop j := by
    rw [List.drop_take]; exact List.take_prefix _ _
   exact List.IsPrefix.trans ⟨t, ht⟩ h3
  rw [h2] at this
  cases this
theorem jnW (sep : List UInt8) (save k : Nat) (s : List UInt8) : Lib.splitK sep save k s ≠ [] := by
 cases k with
 | zero => simp [Lib.splitK]
 | succ k => unfold Lib.splitK; split <;> simp
theorem jbl (x : List UInt8) (l : List (List UInt8)) (sep : List UInt8) (h : l ≠ []) : Lib.join (x :: l) sep = x ++ (sep ++ Lib.join l sep) := by
 cases l with
 | nil => exact absurd rfl h
 | cons y l => unfold Lib.join; rw [List.intercalate_cons_cons]; simp
theorem jbU (x sep : List UInt8) : Lib.join [x] sep = x := by unfold Lib.join; simp
theorem jic (sep : List UInt8) (hsep : sep ≠ []) : ∀ (k : Nat) (s : List UInt8), k = Lib.count s sep → Lib.join (Lib.splitK sep 0 k s) sep = s ∧ (∀ p ∈ Lib.splitK sep 0 k s, Lib.index p sep = -1) ∧ (Lib.splitK sep 0 k s).length = k + 1
 | 0, s, hk => by
  have hm : Lib.index s sep = -1 := by
   have hge := Lib.index_ge s sep
   by_cases h : Lib.index s sep = -1
   ·exact h
   ·have h2 := Lib.count_hit (s := s) (i := (Lib.index s sep).toNat) hsep (by omega)
    omega
  refine ⟨jbU _ _, ?_, rfl⟩
  intro p hp
  have : p = s := by simpa [Lib.splitK] using hp
  rw [this]; exact hm
 | k + 1, s, hk => by
  have hge := Lib.index_ge s sep
  have hne : Lib.index s sep ≠ -1 := fun e => by
   have := Lib.count_miss e
   omega
  obtain ⟨i, hi⟩ : ∃ i : Nat, Lib.index s sep = (i : Int) := ⟨(Lib.index s sep).toNat, by omega⟩
  have hc := Lib.count_hit hsep hi
  have ih := jic sep hsep k (s.drop (i + sep.length)) (by omega)
  have hnb : ¬ (Lib.index s sep == -1) = true := fun e => hne (beq_iff_eq.1 e)
  have e0 : Lib.splitK sep 0 (k + 1) s = s.take i :: Lib.splitK sep 0 k (s.drop (i + sep.length)) := by
   conv => lhs; unfold Lib.splitK
   rw [if_neg hnb, hi]
   simp
  rw [e0]
  refine ⟨?_, ?_, ?_⟩
  ·rw [jbl _ _ _ (jnW _ _ _ _), ih.1]
   exact jqU (jit hi).1
  ·intro p hp
   rcases List.mem_cons.1 hp with rfl | hp
   ·exact jl7 hsep hi
   ·exact ih.2.1 p hp
  ·rw [nqH, ih.2.2]
end
section
open Go.RowKit
def cutV (s : ByteArray) : List ByteArray := Lib.splitB ⟨#[94]⟩ 0 (Lib.countB s ⟨#[94]⟩) s
def free (p : List UInt8) : Prop := (94 : UInt8) ∉ p
theorem jgD : ∀ {p : List UInt8}, Lib.index p [94] = -1 → free p
 | [], _ => fun h => by cases h
 | c :: p, h => by
  unfold Lib.index at h
  by_cases e : c = 94
  ·subst e
   rw [if_pos (by rfl)] at h
   cases h
  ·rw [if_neg (by
    intro hh
    have : ((94 : UInt8) == c) = true := by simpa [List.isPrefixOf] using hh
    exact e (beq_iff_eq.1 this).symm)] at h
   by_cases h2 : (Lib.index p [94] == -1) = true
   ·have := jgD (beq_iff_eq.1 h2)
    intro hm
    rcases List.mem_cons.1 hm with h3 | h3
    ·exact e h3.symm
    ·exact this h3
   ·rw [if_neg h2] at h
    have := Lib.index_ge p [94]
    have : Lib.index p [94] ≠ -1 := fun e => h2 (beq_iff_eq.2 e)
    omega
abbrev datas (l : List ByteArray) : List (List UInt8) := l.map (·.data.toList)
theorem jca (s : ByteArray) : Lib.join (datas (cutV s)) [94] = s.data.toList ∧ (∀ p ∈ datas (cutV s), free p) ∧ cutV s ≠ [] := by
 have hd : datas (cutV s) = Lib.splitK [94] 0 (Lib.count s.data.toList [94]) s.data.toList := Lib.splitB_data ⟨#[94]⟩ 0 _ s
 obtain ⟨h1, h2, h3⟩ := jic [94] (by simp) _ s.data.toList rfl
 refine ⟨by rw [hd]; exact h1, fun p hp => jgD (h2 p (by rw [← hd]; exact hp)), fun e => ?_⟩
 rw [e] at hd
 have := congrArg List.length hd
 rw [h3] at this
 cases this
theorem jlk : ∀ {x y r r' : List UInt8}, free x → free y → x ++ 94 :: r = y ++ 94 :: r' → x = y ∧ r = r'
 | [], [], r, r', hx, hy, h => by injection h with _ h; exact ⟨rfl, h⟩
 | [], b :: y, r, r', hx, hy, h => by
  injection h with h _
  exact absurd (by rw [h]; simp) hy
 | a :: x, [], r, r', hx, hy, h => by
  injection h with h _
  exact absurd (by rw [h]; simp) hx
 | a :: x, b :: y, r, r', hx, hy, h => by
  injection h with h1 h2
  obtain ⟨h3, h4⟩ := jlk (fun hm => hx (List.mem_cons_of_mem _ hm)) (fun hm => hy (List.mem_cons_of_mem _ hm)) h2
  exact ⟨by rw [h1, h3], h4⟩
theorem jlH : ∀ {l m : List (List UInt8)}, l ≠ [] → m ≠ [] → (∀ p ∈ l, free p) → (∀ p ∈ m, free p) → Lib.join l [94] = Lib.join m [94] → l = m
 | [], m, hl, _, _, _, _ => absurd rfl hl
 | x :: l, [], _, hm, _, _, _ => absurd rfl hm
 | [x], [y], _, _, _, _, h => by rw [jbU, jbU] at h; rw [h]
 | [x], y :: z :: m, _, _, hx, hy, h => by
  rw [jbU, jbl _ _ _ (by simp)] at h
  have := hx x (by simp)
  rw [h] at this
  exact absurd (by simp) this
 | x :: w :: l, [y], _, _, hx, hy, h => by
  rw [jbU, jbl _ _ _ (by simp)] at h
  have := hy y (by simp)
  rw [← h] at this
  exact absurd (by simp) this
 | x :: w :: l, y :: z :: m, _, _, hx, hy, h => by
  rw [jbl x (w :: l) _ (by simp), jbl y (z :: m) _ (by simp)] at h
  obtain ⟨h1, h2⟩ := jlk (hx x (by simp)) (hy y (by simp)) h
  rw [h1, jlH (by simp) (by simp) (fun p hp => hx p (List.mem_cons_of_mem _ hp)) (fun p hp => hy p (List.mem_cons_of_mem _ hp)) h2]
theorem jdt : ∀ (l : List (List UInt8)), l.length ≤ (Lib.join l [94]).length + 1 ∧ ∀ p ∈ l, p.length ≤ (Lib.join l [94]).length
 | [] => ⟨Nat.zero_le _, fun p h => by cases h⟩
 | [x] => by
  rw [jbU]
  exact ⟨by simp, fun p h => by rw [List.mem_singleton.1 h]; exact Nat.le_refl _⟩
 | x :: y :: l => by
  obtain ⟨h1, h2⟩ := jdt (y :: l)
  rw [jbl _ _ _ (by simp), nqG, nqG, nqH, List.length_singleton]
  refine ⟨by omega, fun p h => ?_⟩
  rcases List.mem_cons.1 h with rfl | h
  ·omega
  ·have := h2 p h
   omega
theorem jij : ∀ (l : List (List UInt8)) (m : Nat), (∀ p ∈ l, p.length ≤ m) → (Lib.join l [94]).length ≤ l.length * (m + 1)
 | [], m, _ => by simp [Lib.join]
 | [x], m, h => by
  rw [jbU]
  have := h x (by simp)
  simp
  omega
 | x :: y :: l, m, h => by
  have h1 := jij (y :: l) m (fun p hp => h p (List.mem_cons_of_mem _ hp))
  have h2 := h x (by simp)
  rw [jbl _ _ _ (by simp), nqG, nqG, List.length_singleton, nqH (a := x), Nat.add_mul]
  omega
theorem joK {s : ByteArray} (h : s.size ≤ 50000) : shL (cutV s) := by
 obtain ⟨h1, h2, h3⟩ := jca s
 obtain ⟨h4, h5⟩ := jdt (datas (cutV s))
 have hs : s.data.toList.length = s.size := by rw [Array.length_toList]; rfl
 rw [h1, hs, List.length_map] at h4
 rw [h1] at h5
 refine ⟨by omega, fun p hp => ?_⟩
 have h6 := h5 p.data.toList (List.mem_map.2 ⟨p, hp, rfl⟩)
 rw [hs] at h6
 have hq : p.data.toList.length = p.size := by rw [Array.length_toList]; rfl
 omega
def jav (b : TblT) (k v : ByteArray) : List ByteArray := @Classical.epsilon _ ⟨[]⟩ fun x : List ByteArray => x = k :: (if 1 < b.cols.length then cutV v else [])
theorem jb8 (b : TblT) (k v : ByteArray) : jav b k v = k :: (if 1 < b.cols.length then cutV v else []) := @Classical.epsilon_spec _ (fun x : List ByteArray => x = k :: (if 1 < b.cols.length then cutV v else [])) ⟨_, rfl⟩
def unpB (b : TblT) (k v : ByteArray) : Bool := rowB b (jav b k v) && (decide (1 < b.cols.length) || v.data.toList.isEmpty)
theorem jnc (b : TblT) (k v : ByteArray) : (packL (jav b k v) = v.data.toList) ↔ (decide (1 < b.cols.length) || v.data.toList.isEmpty) = true := by
 unfold packL
 rw [jb8, List.drop_succ_cons, List.drop_zero]
 by_cases h : 1 < b.cols.length
 ·rw [if_pos h, decide_eq_true h, Bool.true_or]
  exact ⟨fun _ => rfl, fun _ => (jca v).1⟩
 ·rw [if_neg h, decide_eq_false h, Bool.false_or]
  show (Lib.join [] [94] = _) ↔ _
  cases v.data.toList with
  | nil => exact ⟨fun _ => rfl, fun _ => rfl⟩
  | cons c l => exact ⟨(fun e => by simp [Lib.join] at e), (fun e => by cases e)⟩
theorem jrG {b : TblT} {cs : List ByteArray} (h : rowB b cs = true) : cs.length = b.cols.length ∧ (cs.headD ⟨#[]⟩).data.toList ≠ [] ∧ ∀ c ∈ cs, cellB c = true := by
 unfold rowB at h
 simp only [nqE, decide_eq_true_eq, Bool.not_eq_true'] at h
 refine ⟨h.1.1, fun e => ?_, List.all_eq_true.1 h.2⟩
 rw [e] at h
 exact absurd h.1.2 (by decide)
theorem jrr {cs : List ByteArray} (h : ∀ c ∈ cs, cellB c = true) : (packL cs).length ≤ cs.length * 12 := by
 unfold packL
 have := jij ((cs.drop 1).map (·.data.toList)) 11 (fun p hp => by
  obtain ⟨c, hc, rfl⟩ := List.mem_map.1 hp
  have := h c (List.mem_of_mem_drop hc)
  unfold cellB at this
  rw [nqE, decide_eq_true_eq] at this
  have hq : c.data.toList.length = c.size := by rw [Array.length_toList]; rfl
  omega)
 rw [List.length_map, List.length_drop] at this
 omega
def cutR : List UInt8 → List UInt8 → List (List UInt8)
 | acc, [] => [acc]
 | acc, c :: r => if c = 94 then acc :: cutR [] r else cutR (acc ++ [c]) r
theorem jj9 : ∀ (r acc : List UInt8), cutR acc r ≠ []
 | [], acc => by simp [cutR]
 | c :: r, acc => by
  unfold cutR
  split
  ·simp
  ·exact jj9 r _
theorem jkD : ∀ (r acc : List UInt8), free acc → Lib.join (cutR acc r) [94] = acc ++ r ∧ ∀ p ∈ cutR acc r, free p
 | [], acc, h => ⟨by unfold cutR; rw [jbU, List.append_nil], fun p hp => by unfold cutR at hp; rw [List.mem_singleton.1 hp]; exact h⟩
 | c :: r, acc, h => by
  unfold cutR
  by_cases e : c = 94
  ·rw [if_pos e]
   obtain ⟨h1, h2⟩ := jkD r [] (fun h => by cases h)
   refine ⟨?_, fun p hp => ?_⟩
   ·rw [jbl _ _ _ (jj9 _ _), h1, e]
    simp
   ·rcases List.mem_cons.1 hp with rfl | hp
    ·exact h
    ·exact h2 p hp
  ·rw [if_neg e]
   obtain ⟨h1, h2⟩ := jkD r (acc ++ [c]) (fun hm => by
    rcases nqD.1 hm with hm | hm
    ·exact h hm
    ·exact e (List.mem_singleton.1 hm).symm)
   exact ⟨by rw [h1]; simp, h2⟩
theorem jsc (s : ByteArray) : cutR [] s.data.toList = datas (cutV s) := by
 obtain ⟨h1, h2, h3⟩ := jca s
 obtain ⟨g1, g2⟩ := jkD s.data.toList [] (fun h => by cases h)
 refine jlH (jj9 _ _) ?_ g2 h2 (by rw [g1, h1]; rfl)
 intro e
 exact h3 (by cases hc : cutV s with | nil => rfl | cons a b => rw [hc] at e; cases e)
end
section
open Go.RowKit
def E_l02Sub : Entry := fun ivs => match ivs with | [.cv (.pv (.str s))] => [(true, cB (subB s), [])] | _ => []
def E_l02Name : Entry := fun ivs => match ivs with | [.cv (.pv (.str s))] => [(decide (s.size ≤ 1048576), cB (nameB s), [])] | _ => []
def E_l02Before : Entry := fun ivs => match ivs with | [.cv (.pv (.str a)), .cv (.pv (.str b))] => [(decide (a.size ≤ 1048576) && decide (b.size ≤ 1048576), cB (bef a b), [])] | _ => []
def sab0 : List (FuncId × Entry) := [(157, E_l02Sub), (114, E_l02Name), (156, E_l02Before)]
def jrl (br : Br) (s : ByteArray) := evB br Tryz.prog [] [] LO0 Tryz.f157 [cS s]
abbrev jb4 : List (Nat × List Nat × List Nat) := [(4, [0, 3], [2])]
def jbD : LoopT := fun _ ls => match ls with
 | [(.pv p, none), (.pv (.int .i64 i), none)] => [(isL p && (i == 0) && (asL p).any (fun s => !subB s), .ret, [aB false]), (isL p && (i == 0), .exit 0, [aX])]
 | _ => []
def jp9 (br : Br) (xs : List ByteArray) (i : Int) := rdB br Tryz.prog sab0 jb4 jbD Tryz.f137 4 [] [aP (pL xs), aI i]
def jn4 (br : Br) (xs : List ByteArray) := evB br Tryz.prog sab0 jb4 jbD Tryz.f137 [cP (pL xs)]
def E_l02Subs : Entry := fun ivs => match ivs with | [.cv (.pv p)] => [(isL p, cB (subsB (asL p)), [])] | _ => []
abbrev ja3 : List (Nat × List Nat × List Nat) := [(2, [0, 1, 5], [0, 1, 4])]
def jb1 : List ByteArray → List ByteArray → Option Bool
 | a :: x, b :: y => if sEq a b = true then jb1 x y else some (bef a b)
 | _, _ => none
def jaN : LoopT := fun _ ls => match ls with
 | [(.pv p, none), (.pv q, none), (.pv (.int .i64 i), none)] =>
  [(isL p && isL q && (i == 0) && (jb1 (asL p) (asL q)).isSome, .ret, [aP p, aP q, aB ((jb1 (asL p) (asL q)).getD false)]), (isL p && isL q && (i == 0), .exit 0, [aP p, aP q, aX])]
 | _ => []
def jfs (br : Br) (xs ys : List ByteArray) (i : Int) := rdB br Tryz.prog sab0 ja3 jaN Tryz.f134 2 [] [aP (pL xs), aP (pL ys), aI i]
def jfa (br : Br) (xs ys : List ByteArray) := evB br Tryz.prog sab0 ja3 jaN Tryz.f134 [cP (pL xs), cP (pL ys)]
def E_l02SubsBefore : Entry := fun ivs => match ivs with | [.cv (.pv p), .cv (.pv q)] => [(isL p && isL q, cB (jbI (asL p) (asL q)), [])] | _ => []
abbrev jb9 : List (Nat × List Nat × List Nat) := [(4, [0, 1, 5], [4])]
def sameX (xs ys : List ByteArray) : Bool := holds (xs = ys)
def jbF : LoopT := fun _ ls => match ls with
 | [(.pv p, none), (.pv q, none), (.pv (.int .i64 i), none)] =>
  [(isL p && isL q && (i == 0) && Nat.beq (asL p).length (asL q).length && !sameX (asL p) (asL q), .ret, [aB false]), (isL p && isL q && (i == 0) && Nat.beq (asL p).length (asL q).length, .exit 0, [aX])]
 | _ => []
def joz (br : Br) (xs ys : List ByteArray) (i : Int) := rdB br Tryz.prog sab0 jb9 jbF Tryz.f177 4 [] [aP (pL xs), aP (pL ys), aI i]
def jqb (br : Br) (xs ys : List ByteArray) := evB br Tryz.prog sab0 jb9 jbF Tryz.f177 [cP (pL xs), cP (pL ys)]
def E_l02Same : Entry := fun ivs => match ivs with | [.cv (.pv p), .cv (.pv q)] => [(isL p && isL q, cB (sameX (asL p) (asL q)), [])] | _ => []
def sab1 : List (FuncId × Entry) := (137, E_l02Subs) :: (134, E_l02SubsBefore) :: (177, E_l02Same) :: sab0
def jr8 (br : Br) (xs : List ByteArray) := evB br Tryz.prog sab1 [] LO0 Tryz.f116 [cP (pL xs)]
def jr0 (br : Br) (s : ByteArray) := evB br Tryz.prog sab1 [] LO0 Tryz.f85 [cS s]
def jh4 (br : Br) (xs ys : List ByteArray) := evB br Tryz.prog sab1 [] LO0 Tryz.f113 [cP (pL xs), cP (pL ys)]
def jmF (br : Br) (xs ys : List ByteArray) := evB br Tryz.prog sab1 [] LO0 Tryz.f158 [cP (pL xs), cP (pL ys)]
def sab2 : List (FuncId × Entry) := (116, E_l02Subs) :: (85, E_l02Name) :: (113, E_l02SubsBefore) :: (158, E_l02Same) :: sab1
def jms (br : Br) (s : ByteArray) (xs : List ByteArray) := evB br Tryz.prog sab2 [] LO0 Tryz.f87 [cS s, cP (pL xs)]
def E_l03Place : Entry := fun ivs => match ivs with | [.cv (.pv (.str s)), .cv (.pv p)] => [(decide (s.size ≤ 1048576) && isL p, cB (jdc s (asL p)), [])] | _ => []
def jqk (br : Br) (a : ByteArray) (xs : List ByteArray) (b : ByteArray) (ys : List ByteArray) := evB br Tryz.prog sab2 [] LO0 Tryz.f84 [cS a, cP (pL xs), cS b, cP (pL ys)]
def E_l03Less : Entry := fun ivs => match ivs with | [.cv (.pv (.str a)), .cv (.pv p), .cv (.pv (.str b)), .cv (.pv q)] => [(isL p && isL q, cB (locLt a (asL p) b (asL q)), [])] | _ => []
def sab3 : List (FuncId × Entry) := (87, E_l03Place) :: (84, E_l03Less) :: sab2
def joH (br : Br) (x : NodeT) := evB br Tryz.prog sab3 [] LO0 Tryz.f83 [cP (pN x)]
def E_l03Node : Entry := fun ivs => match ivs with | [.cv (.pv p)] => [(isN p, cB (nodeB (asN p)), [])] | _ => []
def sab4 : List (FuncId × Entry) := (83, E_l03Node) :: sab3
abbrev jdX : List (Nat × List Nat × List Nat) := [(4, [1, 3], [2])]
def jcz : LoopT := fun _ ls => match ls with
 | [(.ptr x 0, some (.box [.pv p])), (.pv (.int .i64 i), none)] => [(isNs p && (i == 0) && Nat.beq x 4096 && !jb2 none (asNs p), .ret, [aB false]), (isNs p && (i == 0) && Nat.beq x 4096, .exit 0, [aX])]
 | _ => []
def jrK (br : Br) (t : List NodeT) (i : Int) := rdB br Tryz.prog sab4 jdX jcz Tryz.f45 4 [] [aBx 1 [.pv (pNs t)], aI i]
def jq3 (br : Br) (t : List NodeT) := evB br Tryz.prog sab4 jdX jcz Tryz.f45 [cP (pT t)]
def E_TreeOk : Entry := fun ivs => match ivs with | [.cv (.pv p)] => [(isT p, cB (treeB (asT p)), [])] | _ => []
end
section
theorem ji9 (xs : List ByteArray) : jn4 brC xs =
 brC (decide ((↑(List.length xs) : Int) > 4))
 (some ((.cv (.pv (.bool false)), [])))
 (brC (isL (pL xs) && 0 == 0 && List.any (asL (pL xs)) fun s => !subB s)
 (some ((.cv (.pv (.bool false)), [])))
 (brC (isL (pL xs) && 0 == 0)
 (some ((.cv (.pv (.bool true)), [])))
 none)) := by kernel_rfl
theorem jbY (xs : List ByteArray) (ys : List ByteArray) (i : Int) : jfs brC xs ys i =
 brC (decide (i < (↑(List.length xs) : Int)))
 (brC (decide (i < (↑(List.length ys) : Int)))
 (brC (decide (0 ≤ i) && decide (i < (↑(List.length xs) : Int)))
 (brC (Nat.blt 0 (List.length (List.drop (Int.toNat i * 1) (List.map PV.str xs))) && PV.isStr (List.headD (List.drop (Int.toNat i * 1) (List.map PV.str xs)) PV.nilp) && true)
 (brC (decide (0 ≤ i) && decide (i < (↑(List.length ys) : Int)))
 (brC (Nat.blt 0 (List.length (List.drop (Int.toNat i * 1) (List.map PV.str ys))) && PV.isStr (List.headD (List.drop (Int.toNat i * 1) (List.map PV.str ys)) PV.nilp) && true)
 (brC (!ByteArray.toList (PV.asStr (List.headD (List.drop (Int.toNat i * 1) (List.map PV.str xs)) PV.nilp)) == ByteArray.toList (PV.asStr (List.headD (List.drop (Int.toNat i * 1) (List.map PV.str ys)) PV.nilp)))
 (brC (decide (0 ≤ i) && decide (i < (↑(List.length xs) : Int)))
 (brC (Nat.blt 0 (List.length (List.drop (Int.toNat i * 1) (List.map PV.str xs))) && PV.isStr (List.headD (List.drop (Int.toNat i * 1) (List.map PV.str xs)) PV.nilp) && true)
 (brC (decide (0 ≤ i) && decide (i < (↑(List.length ys) : Int)))
 (brC (Nat.blt 0 (List.length (List.drop (Int.toNat i * 1) (List.map PV.str ys))) && PV.isStr (List.headD (List.drop (Int.toNat i * 1) (List.map PV.str ys)) PV.nilp) && true)
 (brC (decide (ByteArray.size (PV.asStr (List.headD (List.drop (Int.toNat i * 1) (List.map PV.str xs)) PV.nilp)) ≤ 1048576) && decide (ByteArray.size (PV.asStr (List.headD (List.drop (Int.toNat i * 1) (List.map PV.str ys)) PV.nilp)) ≤ 1048576))
 (some (.inr (.ret, [(.pv (.sl (List.length xs) (List.map PV.str xs)), none), (.pv (.sl (List.length ys) (List.map PV.str ys)), none), (.pv (.bool (bef (PV.asStr (List.headD (List.drop (Int.toNat i * 1) (List.map PV.str xs)) PV.nilp)) (PV.asStr (List.headD (List.drop (Int.toNat i * 1) (List.map PV.str ys)) PV.nilp)))), none)])))
 none)
 none)
 none)
 none)
 none)
 (some (.inl [(.pv (.sl (List.length xs) (List.map PV.str xs)), none), (.pv (.sl (List.length ys) (List.map PV.str ys)), none), (.pv (.int .i64 (IntKind.wrap .i64 (i + 1))), none)])))
 none)
 none)
 none)
 none)
 (some (.inr (.exit 0, [(.pv (.sl (List.length xs) (List.map PV.str xs)), none), (.pv (.sl (List.length ys) (List.map PV.str ys)), none), (.bad, none)]))))
 (some (.inr (.exit 0, [(.pv (.sl (List.length xs) (List.map PV.str xs)), none), (.pv (.sl (List.length ys) (List.map PV.str ys)), none), (.bad, none)]))) := by kernel_rfl
theorem jhM (xs : List ByteArray) (ys : List ByteArray) : jmF brC xs ys =
 brC (isL (PV.sl (List.length xs) (List.map PV.str xs)) && isL (PV.sl (List.length ys) (List.map PV.str ys)))
 (some ((.cv (.pv (.bool (sameX (asL (PV.sl (List.length xs) (List.map PV.str xs))) (asL (PV.sl (List.length ys) (List.map PV.str ys)))))), [])))
 none := by kernel_rfl
theorem jjQ (t : List NodeT) : jq3 brC t =
 brC (decide ((↑(List.length t) : Int) > 120))
 (some ((.cv (.pv (.bool false)), [])))
 (brC (isNs (pNs t) && 0 == 0 && Nat.beq 4096 4096 && !jb2 none (asNs (pNs t)))
 (some ((.cv (.pv (.bool false)), [])))
 (brC (isNs (pNs t) && 0 == 0 && Nat.beq 4096 4096)
 (some ((.cv (.pv (.bool true)), [])))
 none)) := by kernel_rfl
theorem ji4 (xs : List ByteArray) (ys : List ByteArray) : jqb brC xs ys =
 brC ((↑(List.length xs) : Int) != (↑(List.length ys) : Int))
 (some ((.cv (.pv (.bool false)), [])))
 (brC (isL (pL xs) && isL (pL ys) && 0 == 0 && Nat.beq (List.length (asL (pL xs))) (List.length (asL (pL ys))) && !sameX (asL (pL xs)) (asL (pL ys)))
 (some ((.cv (.pv (.bool false)), [])))
 (brC (isL (pL xs) && isL (pL ys) && 0 == 0 && Nat.beq (List.length (asL (pL xs))) (List.length (asL (pL ys))))
 (some ((.cv (.pv (.bool true)), [])))
 none)) := by kernel_rfl
theorem jfS (xs : List ByteArray) (ys : List ByteArray) : jh4 brC xs ys =
 brC (isL (PV.sl (List.length xs) (List.map PV.str xs)) && isL (PV.sl (List.length ys) (List.map PV.str ys)))
 (some ((.cv (.pv (.bool (jbI (asL (PV.sl (List.length xs) (List.map PV.str xs))) (asL (PV.sl (List.length ys) (List.map PV.str ys)))))), [])))
 none := by kernel_rfl
theorem jdZ (xs : List ByteArray) (ys : List ByteArray) : jfa brC xs ys =
 brC (isL (pL xs) && isL (pL ys) && 0 == 0 && Option.isSome (jb1 (asL (pL xs)) (asL (pL ys))))
 (some ((.cv (.pv (.bool (Option.getD (jb1 (asL (pL xs)) (asL (pL ys))) false))), [])))
 (brC (isL (pL xs) && isL (pL ys) && 0 == 0)
 (some ((.cv (.pv (.bool (decide ((↑(List.length xs) : Int) < (↑(List.length ys) : Int))))), [])))
 none) := by kernel_rfl
theorem jg9 (s : ByteArray) (xs : List ByteArray) : jms brC s xs =
 brC (decide (ByteArray.size s ≤ 1048576))
 (brC (nameB s)
 (brC (isL (PV.sl (List.length xs) (List.map PV.str xs)))
 (some ((.cv (.pv (.bool (subsB (asL (PV.sl (List.length xs) (List.map PV.str xs)))))), [])))
 none)
 (some ((.cv (.pv (.bool false)), []))))
 none := by kernel_rfl
theorem jiG (a : ByteArray) (xs : List ByteArray) (b : ByteArray) (ys : List ByteArray) : jqk brC a xs b ys =
 brC (Op.bytesLess (ByteArray.toList a) (ByteArray.toList b))
 (some ((.cv (.pv (.bool true)), [])))
 (brC (ByteArray.toList a == ByteArray.toList b)
 (brC (isL (PV.sl (List.length xs) (List.map PV.str xs)) && isL (PV.sl (List.length ys) (List.map PV.str ys)))
 (some ((.cv (.pv (.bool (jbI (asL (PV.sl (List.length xs) (List.map PV.str xs))) (asL (PV.sl (List.length ys) (List.map PV.str ys)))))), [])))
 none)
 (some ((.cv (.pv (.bool false)), [])))) := by kernel_rfl
theorem jkw (s : ByteArray) : jr0 brC s =
 brC (decide (ByteArray.size s ≤ 1048576))
 (some ((.cv (.pv (.bool (nameB s))), [])))
 none := by kernel_rfl
theorem jiW (x : NodeT) : joH brC x =
 brC (decide (ByteArray.size (NodeT.name x) ≤ 1048576) && isL (PV.sl (List.length (NodeT.subs x)) (List.map PV.str (NodeT.subs x))))
 (brC (jdc (NodeT.name x) (asL (PV.sl (List.length (NodeT.subs x)) (List.map PV.str (NodeT.subs x)))))
 (some ((.cv (.pv (.bool (decide ((↑(ByteArray.size (NodeT.value x)) : Int) ≤ 64)))), [])))
 (some ((.cv (.pv (.bool false)), []))))
 none := by kernel_rfl
theorem je7 (t : List NodeT) (i : Int) : jrK brC t i =
 brC (decide (i < (↑(List.length t) : Int)))
 (brC (decide (0 ≤ i) && decide (i < (↑(List.length t) : Int)))
 (brC (Nat.ble 3 (List.length (List.drop (Int.toNat i * 3) (encN t))) && (PV.isStr (List.headD (List.drop (Int.toNat i * 3) (encN t)) PV.nilp) && (PV.isSl (List.headD (List.tail (List.drop (Int.toNat i * 3) (encN t))) PV.nilp) && (PV.isStr (List.headD (List.tail (List.tail (List.drop (Int.toNat i * 3) (encN t)))) PV.nilp) && true && true) && true) && true) && true)
 (brC (isN (PV.agg [PV.str (PV.asStr (List.headD (List.drop (Int.toNat i * 3) (encN t)) PV.nilp)), PV.sl (PV.slN (List.headD (List.tail (List.drop (Int.toNat i * 3) (encN t))) PV.nilp)) (PV.slL (List.headD (List.tail (List.drop (Int.toNat i * 3) (encN t))) PV.nilp)), PV.str (PV.asStr (List.headD (List.tail (List.tail (List.drop (Int.toNat i * 3) (encN t)))) PV.nilp))]))
 (brC (!nodeB (asN (PV.agg [PV.str (PV.asStr (List.headD (List.drop (Int.toNat i * 3) (encN t)) PV.nilp)), PV.sl (PV.slN (List.headD (List.tail (List.drop (Int.toNat i * 3) (encN t))) PV.nilp)) (PV.slL (List.headD (List.tail (List.drop (Int.toNat i * 3) (encN t))) PV.nilp)), PV.str (PV.asStr (List.headD (List.tail (List.tail (List.drop (Int.toNat i * 3) (encN t)))) PV.nilp))])))
 (some (.inr (.ret, [(.pv (.bool false), none)])))
 (brC (decide (i > 0))
 (brC (decide (0 ≤ IntKind.wrap .i64 (i - 1)) && decide (IntKind.wrap .i64 (i - 1) < (↑(List.length t) : Int)))
 (brC (Nat.blt 0 (List.length (List.drop 0 (List.drop (Int.toNat (IntKind.wrap .i64 (i - 1)) * 3) (encN t)))) && PV.isStr (List.headD (List.drop 0 (List.drop (Int.toNat (IntKind.wrap .i64 (i - 1)) * 3) (encN t))) PV.nilp) && true)
 (brC (decide (0 ≤ IntKind.wrap .i64 (i - 1)) && decide (IntKind.wrap .i64 (i - 1) < (↑(List.length t) : Int)))
 (brC (Nat.blt 0 (List.length (List.drop 1 (List.drop (Int.toNat (IntKind.wrap .i64 (i - 1)) * 3) (encN t)))) && PV.isSl (List.headD (List.drop 1 (List.drop (Int.toNat (IntKind.wrap .i64 (i - 1)) * 3) (encN t))) PV.nilp) && true)
 (brC (isL (PV.sl (PV.slN (List.headD (List.drop 1 (List.drop (Int.toNat (IntKind.wrap .i64 (i - 1)) * 3) (encN t))) PV.nilp)) (PV.slL (List.headD (List.drop 1 (List.drop (Int.toNat (IntKind.wrap .i64 (i - 1)) * 3) (encN t))) PV.nilp))) && isL (PV.sl (PV.slN (List.headD (List.tail (List.drop (Int.toNat i * 3) (encN t))) PV.nilp)) (PV.slL (List.headD (List.tail (List.drop (Int.toNat i * 3) (encN t))) PV.nilp))))
 (brC (!locLt (PV.asStr (List.headD (List.drop 0 (List.drop (Int.toNat (IntKind.wrap .i64 (i - 1)) * 3) (encN t))) PV.nilp)) (asL (PV.sl (PV.slN (List.headD (List.drop 1 (List.drop (Int.toNat (IntKind.wrap .i64 (i - 1)) * 3) (encN t))) PV.nilp)) (PV.slL (List.headD (List.drop 1 (List.drop (Int.toNat (IntKind.wrap .i64 (i - 1)) * 3) (encN t))) PV.nilp)))) (PV.asStr (List.headD (List.drop (Int.toNat i * 3) (encN t)) PV.nilp)) (asL (PV.sl (PV.slN (List.headD (List.tail (List.drop (Int.toNat i * 3) (encN t))) PV.nilp)) (PV.slL (List.headD (List.tail (List.drop (Int.toNat i * 3) (encN t))) PV.nilp)))))
 (some (.inr (.ret, [(.pv (.bool false), none)])))
 (some (.inl [(.ptr 4096 0, some (.box [.pv (.sl (List.length t) (encN t))])), (.pv (.int .i64 (IntKind.wrap .i64 (i + 1))), none)])))
 none)
 none)
 none)
 none)
 none)
 (some (.inl [(.ptr 4096 0, some (.box [.pv (.sl (List.length t) (encN t))])), (.pv (.int .i64 (IntKind.wrap .i64 (i + 1))), none)]))))
 none)
 none)
 none)
 (some (.inr (.exit 0, [(.bad, none)]))) := by kernel_rfl
theorem jkC (xs : List ByteArray) : jr8 brC xs =
 brC (isL (PV.sl (List.length xs) (List.map PV.str xs)))
 (some ((.cv (.pv (.bool (subsB (asL (PV.sl (List.length xs) (List.map PV.str xs)))))), [])))
 none := by kernel_rfl
theorem jjG (s : ByteArray) : jrl brC s =
 brC (decide ((↑(ByteArray.size s) : Int) ≥ 1))
 (some ((.cv (.pv (.bool (decide ((↑(ByteArray.size s) : Int) ≤ 24)))), [])))
 (some ((.cv (.pv (.bool false)), []))) := by kernel_rfl
theorem jev (xs : List ByteArray) (i : Int) : jp9 brC xs i =
 brC (decide (i < (↑(List.length xs) : Int)))
 (brC (decide (0 ≤ i) && decide (i < (↑(List.length xs) : Int)))
 (brC (Nat.blt 0 (List.length (List.drop (Int.toNat i * 1) (List.map PV.str xs))) && PV.isStr (List.headD (List.drop (Int.toNat i * 1) (List.map PV.str xs)) PV.nilp) && true)
 (brC (!subB (PV.asStr (List.headD (List.drop (Int.toNat i * 1) (List.map PV.str xs)) PV.nilp)))
 (some (.inr (.ret, [(.pv (.bool false), none)])))
 (some (.inl [(.pv (.sl (List.length xs) (List.map PV.str xs)), none), (.pv (.int .i64 (IntKind.wrap .i64 (i + 1))), none)])))
 none)
 none)
 (some (.inr (.exit 0, [(.bad, none)]))) := by kernel_rfl
theorem jeC (xs : List ByteArray) (ys : List ByteArray) (i : Int) : joz brC xs ys i =
 brC (decide (i < (↑(List.length xs) : Int)))
 (brC (decide (0 ≤ i) && decide (i < (↑(List.length xs) : Int)))
 (brC (Nat.blt 0 (List.length (List.drop (Int.toNat i * 1) (List.map PV.str xs))) && PV.isStr (List.headD (List.drop (Int.toNat i * 1) (List.map PV.str xs)) PV.nilp) && true)
 (brC (decide (0 ≤ i) && decide (i < (↑(List.length ys) : Int)))
 (brC (Nat.blt 0 (List.length (List.drop (Int.toNat i * 1) (List.map PV.str ys))) && PV.isStr (List.headD (List.drop (Int.toNat i * 1) (List.map PV.str ys)) PV.nilp) && true)
 (brC (!ByteArray.toList (PV.asStr (List.headD (List.drop (Int.toNat i * 1) (List.map PV.str xs)) PV.nilp)) == ByteArray.toList (PV.asStr (List.headD (List.drop (Int.toNat i * 1) (List.map PV.str ys)) PV.nilp)))
 (some (.inr (.ret, [(.pv (.bool false), none)])))
 (some (.inl [(.pv (.sl (List.length xs) (List.map PV.str xs)), none), (.pv (.sl (List.length ys) (List.map PV.str ys)), none), (.pv (.int .i64 (IntKind.wrap .i64 (i + 1))), none)])))
 none)
 none)
 none)
 none)
 (some (.inr (.exit 0, [(.bad, none)]))) := by kernel_rfl
end
section
open Go.RowKit
theorem jqq : jab Tryz.prog 157 E_l02Sub := jac mix (tab := []) trivial (lp := []) (LO := LO0) ⟨Tryz.func157, by kernel_rfl, by kernel_rfl⟩ (by kernel_rfl) fun ivs res bxs h => by
 unfold E_l02Sub at h
 split at h
 ·rename_i s
  cases h
  refine ⟨jao (by kernel_rfl), (jjG s).trans ?_⟩
  unfold subB
  by_cases h1 : 1 ≤ s.size
  ·rw [dT (show (s.size : Int) ≥ 1 by omega), dT h1, show decide ((s.size : Int) ≤ 24) = decide (s.size ≤ 24) by rw [decide_eq_decide]; omega]
   rfl
  ·rw [dF (show ¬ (s.size : Int) ≥ 1 by omega), dF h1]
   rfl
 ·cases h
theorem jnj : jab Tryz.prog 114 E_l02Name := ⟨⟨_, Tryz.func114, by kernel_rfl, by kernel_rfl⟩, fun ivs res bxs h => by
 unfold E_l02Name at h
 split at h
 ·rename_i s
  obtain ⟨hc, he⟩ := pick1 h
  cases he
  have hs : s.size ≤ 1048576 := nqI hc
  refine jbA (ps := [.str s]) (v := .bool (nameB s)) rfl fun w com vals hv _ => ?_
  obtain ⟨v, vs, rfl, hv, hn⟩ := hv.of_cons
  rw [hn.of_nil]
  cases hv
  refine (jkg s _ rfl w (by omega)).mono ?_
  rintro e w' ⟨rfl, rfl⟩
  exact ⟨rfl, Below.refl _ _⟩
 ·cases h⟩
theorem jib : jab Tryz.prog 156 E_l02Before := ⟨⟨_, Tryz.func156, by kernel_rfl, by kernel_rfl⟩, fun ivs res bxs h => by
 unfold E_l02Before at h
 split at h
 ·rename_i a b
  obtain ⟨hc, he⟩ := pick1 h
  cases he
  rw [nqE, decide_eq_true_eq, decide_eq_true_eq] at hc
  refine jbA (ps := [.str a, .str b]) (v := .bool (bef a b)) rfl fun w com vals hv _ => ?_
  obtain ⟨v, vs, rfl, hv1, hn⟩ := hv.of_cons
  obtain ⟨v2, vs2, rfl, hv2, hn2⟩ := hn.of_cons
  rw [hn2.of_nil]
  cases hv1
  cases hv2
  exact jhA a b w (by omega) (by omega)
 ·cases h⟩
theorem jhb : jad Tryz.prog sab0 := ⟨jqq, jnj, jib, trivial⟩
theorem jja (xs : List ByteArray) (h : shL xs) : LoopsTo (rdB brC Tryz.prog sab0 jb4 jbD Tryz.f137 4 []) [aP (pL xs), aI 0] (if (xs.any fun s => !subB s) = true then (.ret, [aB false]) else (.exit 0, [aX])) := by
 have := jed (f := rdB brC Tryz.prog sab0 jb4 jbD Tryz.f137 4 []) xs (fun i (_ : Unit) => [aP (pL xs), aI i]) (fun x _ => if (!subB x) = true then .inr (.ret, [aB false]) else .inl ()) (fun _ => (.exit 0, [aX])) (fun _ _ => True) ?_ ?_ (b := ()) trivial
 ·rw [jpw] at this
  exact this
 ·intro i hi _ _
  have hl := h.1
  have tree := jev xs i
  simp (disch := omega) only [dT, nqF, jas xs i hi, nqH, List.headD_cons, PV.isStr, PV.asStr, blt0, wrap1, Bool.and_true] at tree
  cases hb : subB xs[i] with
  | true =>
   rw [hb] at tree
   exact .inl ⟨(), rfl, trivial, tree⟩
  | false =>
   rw [hb] at tree
   exact .inr ⟨_, rfl, tree⟩
 ·intro _ _
  refine (jev xs xs.length).trans ?_
  rw [dF (by omega)]
  rfl
theorem jl5 : jab Tryz.prog 137 E_l02Subs := jac mix jhb (lp := jb4) (LO := jbD) ⟨Tryz.func137, by kernel_rfl, by kernel_rfl⟩ (by kernel_rfl) fun ivs res bxs h => by
 unfold E_l02Subs at h
 split at h
 ·rename_i p
  obtain ⟨hc, he⟩ := pick1 h
  cases he
  obtain ⟨xs, rfl, hx⟩ := jai hc
  refine ⟨jar 4 (by kernel_rfl) (by kernel_rfl) (by kernel_rfl) ?_, (ji9 xs).trans ?_⟩
  ·intro ls e ls' hl
   unfold jbD at hl
   split at hl
   ·rename_i q i
    cases hg : (isL q && (i == 0)) with
    | false => rw [hg] at hl; simp only [pickA, Bool.false_and, cond_false] at hl; cases hl
    | true =>
     rw [hg, Bool.true_and] at hl
     simp only [nqE, beq_iff_eq] at hg
     obtain ⟨ys, rfl, hy⟩ := jai hg.1
     obtain rfl := hg.2
     simp only [jah] at hl
     have := jja ys hy
     cases ha : (ys.any fun s => !subB s) <;> rw [ha] at hl this <;> cases hl <;> exact this
   ·cases hl
  ·simp only [jal hx, jah, beq_self_eq_true, Bool.and_true, Bool.true_and]
   unfold subsB
   have e : (xs.all subB) = !(xs.any fun s => !subB s) := by rw [List.any_eq_not_all_not]; simp
   rw [e]
   by_cases h4 : xs.length ≤ 4
   ·rw [dF (show ¬ (xs.length : Int) > 4 by omega), dT h4]
    cases (xs.any fun s => !subB s) <;> rfl
   ·rw [dT (show (xs.length : Int) > 4 by omega), dF h4]
    rfl
 ·cases h
theorem jiQ : ∀ xs ys : List ByteArray, ∀ (A B : AV × Option Ob), foldS (fun (z : ByteArray × ByteArray) (_ : Unit) => if sEq z.1 z.2 = true then .inl () else .inr ((Ex.ret, [A, B, aB (bef z.1 z.2)]) : Ex × LS)) (fun _ => (.exit 0, [A, B, aX])) (xs.zip ys) () =
  match jb1 xs ys with | some r => (.ret, [A, B, aB r]) | none => (.exit 0, [A, B, aX])
 | [], _, A, B => by rw [List.zip_nil_left]; rfl
 | _ :: _, [], A, B => by rw [List.zip_nil_right]; rfl
 | a :: x, b :: y, A, B => by
  rw [List.zip_cons_cons]
  unfold foldS jb1
  dsimp only
  cases hs : sEq a b with
  | true => rw [if_pos rfl, if_pos rfl]; exact jiQ x y A B
  | false => rw [if_neg Bool.false_ne_true, if_neg Bool.false_ne_true]
theorem jfA : ∀ xs ys : List ByteArray, jbI xs ys = match jb1 xs ys with | some r => r | none => decide (xs.length < ys.length)
 | [], [] => rfl
 | _ :: _, [] => rfl
 | [], _ :: _ => rfl
 | a :: x, b :: y => by
  unfold jbI jb1
  cases hs : sEq a b with
  | true =>
   rw [if_pos rfl, if_pos rfl, jfA x y]
   cases jb1 x y with
   | some r => rfl
   | none =>
    show decide (x.length < y.length) = decide (x.length + 1 < y.length + 1)
    rw [decide_eq_decide]; omega
  | false => rw [if_neg Bool.false_ne_true, if_neg Bool.false_ne_true]
theorem jdH (xs ys : List ByteArray) (h : shL xs) (k : shL ys) : LoopsTo (rdB brC Tryz.prog sab0 ja3 jaN Tryz.f134 2 []) [aP (pL xs), aP (pL ys), aI 0]
  (match jb1 xs ys with | some r => (.ret, [aP (pL xs), aP (pL ys), aB r]) | none => (.exit 0, [aP (pL xs), aP (pL ys), aX])) := by
 have := jed (f := rdB brC Tryz.prog sab0 ja3 jaN Tryz.f134 2 []) (xs.zip ys) (fun i (_ : Unit) => [aP (pL xs), aP (pL ys), aI i])
  (fun z _ => if sEq z.1 z.2 = true then .inl () else .inr (.ret, [aP (pL xs), aP (pL ys), aB (bef z.1 z.2)])) (fun _ => (.exit 0, [aP (pL xs), aP (pL ys), aX])) (fun _ _ => True) ?_ ?_ (b := ()) trivial
 ·rw [jiQ] at this
  exact this
 ·intro i hi _ _
  have hl := h.1
  have hkl := k.1
  rw [List.length_zip] at hi
  have hix : i < xs.length := by omega
  have hiy : i < ys.length := by omega
  have s1 := jlw h hix
  have s2 := jlw k hiy
  have tree := jbY xs ys i
  simp (disch := omega) only [dT, nqF, jas xs i hix, jas ys i hiy, nqH, List.headD_cons, PV.isStr, PV.asStr, blt0, wrap1, Bool.and_true] at tree
  rw [List.getElem_zip]
  cases hb : sEq xs[i] ys[i] with
  | true =>
   have hb' : (ByteArray.toList xs[i] == ByteArray.toList ys[i]) = true := hb
   rw [hb'] at tree
   exact .inl ⟨(), rfl, trivial, tree⟩
  | false =>
   have hb' : (ByteArray.toList xs[i] == ByteArray.toList ys[i]) = false := hb
   rw [hb'] at tree
   exact .inr ⟨_, rfl, tree⟩
 ·intro _ _
  refine (jbY xs ys (xs.zip ys).length).trans ?_
  rw [List.length_zip]
  by_cases hle : xs.length ≤ ys.length
  ·rw [Nat.min_eq_left hle, dF (by omega)]
   rfl
  ·rw [Nat.min_eq_right (by omega), dF (show ¬ (ys.length : Int) < (ys.length : Int) by omega), dT (show (ys.length : Int) < (xs.length : Int) by omega)]
   rfl
theorem jeQ : jab Tryz.prog 134 E_l02SubsBefore := jac mix jhb (lp := ja3) (LO := jaN) ⟨Tryz.func134, by kernel_rfl, by kernel_rfl⟩ (by kernel_rfl) fun ivs res bxs h => by
 unfold E_l02SubsBefore at h
 split at h
 ·rename_i p q
  obtain ⟨hc, he⟩ := pick1 h
  cases he
  rw [nqE] at hc
  obtain ⟨xs, rfl, hx⟩ := jai hc.1
  obtain ⟨ys, rfl, hy⟩ := jai hc.2
  refine ⟨jar 2 (by kernel_rfl) (by kernel_rfl) (by kernel_rfl) ?_, (jdZ xs ys).trans ?_⟩
  ·intro ls e ls' hl
   unfold jaN at hl
   split at hl
   ·rename_i p q i
    cases hg : (isL p && isL q && (i == 0)) with
    | false => rw [hg] at hl; simp only [pickA, Bool.false_and, cond_false] at hl; cases hl
    | true =>
     rw [hg, Bool.true_and] at hl
     simp only [nqE, beq_iff_eq] at hg
     obtain ⟨us, rfl, hu⟩ := jai hg.1.1
     obtain ⟨vs, rfl, hv⟩ := jai hg.1.2
     obtain rfl := hg.2
     simp only [jah] at hl
     have := jdH us vs hu hv
     cases ha : jb1 us vs <;> rw [ha] at hl this <;> cases hl <;> exact this
   ·cases hl
  ·simp only [jal hx, jal hy, jah, beq_self_eq_true, Bool.and_true, Bool.true_and, jfA xs ys]
   cases jb1 xs ys with
   | some r => rfl
   | none =>
    have : decide ((xs.length : Int) < (ys.length : Int)) = decide (xs.length < ys.length) := by rw [decide_eq_decide]; omega
    rw [this]
    rfl
 ·cases h
theorem jis : ∀ xs ys : List ByteArray, xs.length = ys.length → foldS (fun (z : ByteArray × ByteArray) (_ : Unit) => if sEq z.1 z.2 = true then .inl () else .inr ((Ex.ret, [aB false]) : Ex × LS)) (fun _ => (.exit 0, [aX])) (xs.zip ys) () =
  if sameX xs ys = true then (.exit 0, [aX]) else (.ret, [aB false])
 | [], [], _ => by unfold sameX; rw [if_pos (jak rfl)]; rfl
 | [], _ :: _, h => by cases h
 | _ :: _, [], h => by cases h
 | a :: x, b :: y, h => by
  rw [List.zip_cons_cons]
  unfold foldS
  dsimp only
  have ih := jis x y (by simpa using h)
  unfold sameX at ih ⊢
  cases hs : sEq a b with
  | true =>
   rw [if_pos rfl]
   dsimp only
   rw [ih]
   obtain rfl := jbL.1 hs
   by_cases hxy : x = y
   ·rw [if_pos (jak hxy), if_pos (jak (by rw [hxy]))]
   ·rw [if_neg (fun e => hxy (jam e)), if_neg (fun e => hxy (by have := jam e; injection this))]
  | false =>
   rw [if_neg Bool.false_ne_true]
   rw [if_neg (fun e => jio.1 hs (by have := jam e; injection this))]
theorem jii (xs ys : List ByteArray) (h : shL xs) (k : shL ys) (hlen : xs.length = ys.length) : LoopsTo (rdB brC Tryz.prog sab0 jb9 jbF Tryz.f177 4 []) [aP (pL xs), aP (pL ys), aI 0]
  (if sameX xs ys = true then (.exit 0, [aX]) else (.ret, [aB false])) := by
 have := jed (f := rdB brC Tryz.prog sab0 jb9 jbF Tryz.f177 4 []) (xs.zip ys) (fun i (_ : Unit) => [aP (pL xs), aP (pL ys), aI i])
  (fun z _ => if sEq z.1 z.2 = true then .inl () else .inr (.ret, [aB false])) (fun _ => (.exit 0, [aX])) (fun _ _ => True) ?_ ?_ (b := ()) trivial
 ·rw [jis _ _ hlen] at this
  exact this
 ·intro i hi _ _
  have hl := h.1
  rw [List.length_zip] at hi
  have hix : i < xs.length := by omega
  have hiy : i < ys.length := by omega
  have tree := jeC xs ys i
  simp (disch := omega) only [dT, nqF, jas xs i hix, jas ys i hiy, nqH, List.headD_cons, PV.isStr, PV.asStr, blt0, wrap1, Bool.and_true] at tree
  rw [List.getElem_zip]
  cases hb : sEq xs[i] ys[i] with
  | true =>
   have hb' : (ByteArray.toList xs[i] == ByteArray.toList ys[i]) = true := hb
   rw [hb'] at tree
   exact .inl ⟨(), rfl, trivial, tree⟩
  | false =>
   have hb' : (ByteArray.toList xs[i] == ByteArray.toList ys[i]) = false := hb
   rw [hb'] at tree
   exact .inr ⟨_, rfl, tree⟩
 ·intro _ _
  refine (jeC xs ys (xs.zip ys).length).trans ?_
  rw [List.length_zip, ← hlen, Nat.min_self, dF (by omega)]
  rfl
theorem jmZ : jab Tryz.prog 177 E_l02Same := jac mix jhb (lp := jb9) (LO := jbF) ⟨Tryz.func177, by kernel_rfl, by kernel_rfl⟩ (by kernel_rfl) fun ivs res bxs h => by
 unfold E_l02Same at h
 split at h
 ·rename_i p q
  obtain ⟨hc, he⟩ := pick1 h
  cases he
  rw [nqE] at hc
  obtain ⟨xs, rfl, hx⟩ := jai hc.1
  obtain ⟨ys, rfl, hy⟩ := jai hc.2
  refine ⟨jar 4 (by kernel_rfl) (by kernel_rfl) (by kernel_rfl) ?_, (ji4 xs ys).trans ?_⟩
  ·intro ls e ls' hl
   unfold jbF at hl
   split at hl
   ·rename_i p q i
    cases hg : (isL p && isL q && (i == 0)) with
    | false => rw [hg] at hl; simp only [pickA, Bool.false_and, cond_false] at hl; cases hl
    | true =>
     rw [hg, Bool.true_and] at hl
     simp only [nqE, beq_iff_eq] at hg
     obtain ⟨us, rfl, hu⟩ := jai hg.1.1
     obtain ⟨vs, rfl, hv⟩ := jai hg.1.2
     obtain rfl := hg.2
     simp only [jah] at hl
     cases hlen : Nat.beq us.length vs.length with
     | false => rw [hlen] at hl; simp only [pickA, Bool.false_and, cond_false] at hl; cases hl
     | true =>
      rw [hlen, Bool.true_and] at hl
      have := jii us vs hu hv (nqB hlen)
      cases ha : sameX us vs <;> rw [ha] at hl this <;> cases hl <;> exact this
   ·cases hl
  ·simp only [jal hx, jal hy, jah, beq_self_eq_true, Bool.and_true, Bool.true_and]
   by_cases hlen : xs.length = ys.length
   ·have e1 : ((xs.length : Int) != (ys.length : Int)) = false := by simp [hlen]
    have e2 : Nat.beq xs.length ys.length = true := by rw [hlen]; exact Nat.beq_refl _
    rw [e1, e2]
    cases sameX xs ys <;> rfl
   ·have e1 : ((xs.length : Int) != (ys.length : Int)) = true := by simp; omega
    have e3 : sameX xs ys = false := by
     cases hs : sameX xs ys with
     | false => rfl
     | true => exact absurd (by rw [jam hs]) hlen
    rw [e1, e3]
    rfl
 ·cases h
theorem jfp : jad Tryz.prog sab1 := ⟨jl5, jeQ, jmZ, jhb⟩
theorem jp1 : jab Tryz.prog 116 E_l02Subs := jac mix jfp (lp := []) (LO := LO0) ⟨Tryz.func116, by kernel_rfl, by kernel_rfl⟩ (by kernel_rfl) fun ivs res bxs h => by
 unfold E_l02Subs at h
 split at h
 ·rename_i p
  obtain ⟨hc, he⟩ := pick1 h
  cases he
  obtain ⟨xs, rfl, hx⟩ := jai hc
  refine ⟨jao (by kernel_rfl), (jkC xs).trans ?_⟩
  simp only [jal hx, jah]
  rfl
 ·cases h
theorem jgt : jab Tryz.prog 85 E_l02Name := jac mix jfp (lp := []) (LO := LO0) ⟨Tryz.func85, by kernel_rfl, by kernel_rfl⟩ (by kernel_rfl) fun ivs res bxs h => by
 unfold E_l02Name at h
 split at h
 ·rename_i s
  obtain ⟨hc, he⟩ := pick1 h
  cases he
  refine ⟨jao (by kernel_rfl), (jkw s).trans ?_⟩
  rw [hc]
  rfl
 ·cases h
theorem jge : jab Tryz.prog 113 E_l02SubsBefore := jac mix jfp (lp := []) (LO := LO0) ⟨Tryz.func113, by kernel_rfl, by kernel_rfl⟩ (by kernel_rfl) fun ivs res bxs h => by
 unfold E_l02SubsBefore at h
 split at h
 ·rename_i p q
  obtain ⟨hc, he⟩ := pick1 h
  cases he
  rw [nqE] at hc
  obtain ⟨xs, rfl, hx⟩ := jai hc.1
  obtain ⟨ys, rfl, hy⟩ := jai hc.2
  refine ⟨jao (by kernel_rfl), (jfS xs ys).trans ?_⟩
  simp only [jal hx, jal hy, jah]
  rfl
 ·cases h
theorem jjs : jab Tryz.prog 158 E_l02Same := jac mix jfp (lp := []) (LO := LO0) ⟨Tryz.func158, by kernel_rfl, by kernel_rfl⟩ (by kernel_rfl) fun ivs res bxs h => by
 unfold E_l02Same at h
 split at h
 ·rename_i p q
  obtain ⟨hc, he⟩ := pick1 h
  cases he
  rw [nqE] at hc
  obtain ⟨xs, rfl, hx⟩ := jai hc.1
  obtain ⟨ys, rfl, hy⟩ := jai hc.2
  refine ⟨jao (by kernel_rfl), (jhM xs ys).trans ?_⟩
  simp only [jal hx, jal hy, jah]
  rfl
 ·cases h
theorem jks : jad Tryz.prog sab2 := ⟨jp1, jgt, jge, jjs, jfp⟩
theorem jjK : jab Tryz.prog 87 E_l03Place := jac mix jks (lp := []) (LO := LO0) ⟨Tryz.func87, by kernel_rfl, by kernel_rfl⟩ (by kernel_rfl) fun ivs res bxs h => by
 unfold E_l03Place at h
 split at h
 ·rename_i s p
  obtain ⟨hc, he⟩ := pick1 h
  cases he
  rw [nqE] at hc
  obtain ⟨xs, rfl, hx⟩ := jai hc.2
  refine ⟨jao (by kernel_rfl), (jg9 s xs).trans ?_⟩
  simp only [jal hx, jah, hc.1]
  unfold jdc
  cases nameB s <;> rfl
 ·cases h
theorem jmY : jab Tryz.prog 84 E_l03Less := jac mix jks (lp := []) (LO := LO0) ⟨Tryz.func84, by kernel_rfl, by kernel_rfl⟩ (by kernel_rfl) fun ivs res bxs h => by
 unfold E_l03Less at h
 split at h
 ·rename_i a p b q
  obtain ⟨hc, he⟩ := pick1 h
  cases he
  rw [nqE] at hc
  obtain ⟨xs, rfl, hx⟩ := jai hc.1
  obtain ⟨ys, rfl, hy⟩ := jai hc.2
  refine ⟨jao (by kernel_rfl), (jiG a xs b ys).trans ?_⟩
  simp only [jal hx, jal hy, jah]
  show brC (strLt a b) _ (brC (sEq a b) _ _) = some (cB (strLt a b || (sEq a b && _)), [])
  cases strLt a b <;> cases sEq a b <;> rfl
 ·cases h
theorem jqu : jad Tryz.prog sab3 := ⟨jjK, jmY, jks⟩
theorem jnk : jab Tryz.prog 83 E_l03Node := jac mix jqu (lp := []) (LO := LO0) ⟨Tryz.func83, by kernel_rfl, by kernel_rfl⟩ (by kernel_rfl) fun ivs res bxs h => by
 unfold E_l03Node at h
 split at h
 ·rename_i p
  obtain ⟨hc, he⟩ := pick1 h
  cases he
  obtain ⟨x, rfl, hx⟩ := jag hc
  refine ⟨jao (by kernel_rfl), (jiW x).trans ?_⟩
  simp only [jal hx.2.1, jah, jby, dT hx.1]
  unfold nodeB
  rw [show decide ((x.value.size : Int) ≤ 64) = decide (x.value.size ≤ 64) by rw [decide_eq_decide]; omega]
  cases jdc x.name x.subs <;> rfl
 ·cases h
theorem jsW : jad Tryz.prog sab4 := ⟨jnk, jqu⟩
def prevT (t : List NodeT) (i : Nat) : Option NodeT := if i = 0 then none else t[i - 1]?
theorem jkO (t : List NodeT) (h : shT t) : ∀ (m i : Nat), m + i = t.length → LoopsTo (rdB brC Tryz.prog sab4 jdX jcz Tryz.f45 4 []) [aBx 1 [.pv (pNs t)], aI i] (if jb2 (prevT t i) (t.drop i) = true then (.exit 0, [aX]) else (.ret, [aB false])) := by
 have hl := h.1
 intro m
 induction m with
 | zero =>
  intro i hm
  obtain rfl : i = t.length := by omega
  rw [List.drop_length]
  refine .done _ _ ((je7 t t.length).trans ?_)
  rw [dF (by omega)]
  rfl
 | succ m ih =>
  intro i hm
  have hi : i < t.length := by omega
  have hs := jet h hi
  have ih' := ih (i + 1) (by omega)
  have hp1 : prevT t (i + 1) = some t[i] := by unfold prevT; rw [if_neg (by omega)]; simp [hi]
  rw [hp1] at ih'
  rw [nqK hi]
  unfold jb2
  have tree := je7 t i
  simp (disch := omega) only [dT, nqF, jaR t i hi, nqH, List.headD_cons, List.tail_cons, PV.isStr, PV.asStr, PV.isSl, PV.slN, PV.slL, ble3, wrap1, Bool.and_true, jfF hs, jby, jah, jal hs.2.1] at tree
  cases hn : nodeB t[i] with
  | false =>
   rw [hn] at tree
   simp only [Bool.false_and, if_neg Bool.false_ne_true]
   exact .done _ _ tree
  | true =>
   rw [hn] at tree
   by_cases h0 : i = 0
   ·subst h0
    have hp : prevT t 0 = none := rfl
    rw [hp]
    simp only [Bool.true_and]
    rw [dF (by omega)] at tree
    exact .step _ _ _ tree ih'
   ·have hj : i - 1 < t.length := by omega
    have hsj := jet h hj
    have w1 : IntKind.wrap .i64 ((i : Int) - 1) = ((i - 1 : Nat) : Int) := by rw [wrapI (by omega) (by omega)]; omega
    have hp : prevT t i = some t[i - 1] := by unfold prevT; rw [if_neg h0]; simp [hj]
    rw [hp]
    simp (disch := omega) only [dT, w1, nqF, jaR t (i - 1) hj, List.drop_zero, List.drop_succ_cons, nqH, List.headD_cons, PV.isStr, PV.asStr, PV.isSl, PV.slN, PV.slL, blt0, Bool.and_true, jah, jal hsj.2.1] at tree
    dsimp only
    rcases Bool.eq_false_or_eq_true (ji8 t[i - 1] t[i]) with hlt | hlt
    ·have hlt' : locLt t[i - 1].name t[i - 1].subs t[i].name t[i].subs = true := hlt
     rw [hlt'] at tree
     simp only [hlt', Bool.true_and]
     exact .step _ _ _ tree ih'
    ·have hlt' : locLt t[i - 1].name t[i - 1].subs t[i].name t[i].subs = false := hlt
     rw [hlt'] at tree
     simp only [hlt', Bool.false_and, Bool.true_and, if_neg Bool.false_ne_true]
     exact .done _ _ tree
theorem jmi : jab Tryz.prog 45 E_TreeOk := jac mix jsW (lp := jdX) (LO := jcz) ⟨Tryz.func45, by kernel_rfl, by kernel_rfl⟩ (by kernel_rfl) fun ivs res bxs h => by
 unfold E_TreeOk at h
 split at h
 ·rename_i p
  obtain ⟨hc, he⟩ := pick1 h
  cases he
  obtain ⟨t, rfl, ht⟩ := jag hc
  refine ⟨jar 4 (by kernel_rfl) (by kernel_rfl) (by kernel_rfl) ?_, (jjQ t).trans ?_⟩
  ·intro ls e ls' hl
   unfold jcz at hl
   split at hl
   ·rename_i x p i
    cases hg : (isNs p && (i == 0) && Nat.beq x 4096) with
    | false => rw [hg] at hl; simp only [pickA, Bool.false_and, cond_false] at hl; cases hl
    | true =>
     rw [hg, Bool.true_and] at hl
     simp only [nqE, beq_iff_eq] at hg
     obtain ⟨u, rfl, hu⟩ := jag hg.1.1
     obtain rfl := hg.1.2
     rw [nqB hg.2]
     simp only [jat] at hl
     have := jkO u hu u.length 0 (by omega)
     have e0 : prevT u 0 = none := rfl
     rw [e0, List.drop_zero] at this
     cases ha : jb2 none u <;> rw [ha] at hl this <;> cases hl <;> exact this
   ·cases hl
  ·simp only [jbp ht, jat, ja2, beq_self_eq_true, Bool.and_true, Bool.true_and, Nat.beq_refl]
   unfold treeB
   by_cases h4 : t.length ≤ 120
   ·rw [dF (show ¬ (t.length : Int) > 120 by omega), dT h4]
    cases jb2 none t <;> rfl
   ·rw [dT (show (t.length : Int) > 120 by omega), dF h4]
    rfl
 ·cases h
end
section
open Go.RowKit
abbrev lN (t : List NodeT) : CV := .lst 3 70 t.length (encN t) true
end
section
end
section
open Go.RowKit
end
section
open Go.RowKit
def pbb0 : List (FuncId × Entry) := (73, E_ITb) :: pab3
def jvE (br : Br) (b : TblT) (cs : List ByteArray) := evB br Tryz.prog pbb0 [] LO0 Tryz.f97 [cP (pTb b), cP (pRw cs)]
def E_irow : Entry := fun ivs => match ivs with | [.cv (.pv p), .cv (.pv q)] => [(isTb p && isRw q && decide (1 ≤ (asTb p).cols.length), cB (rowB (asTb p) (asRw q)), [])] | _ => []
def pbb1 : List (FuncId × Entry) := (97, E_irow) :: pbb0
def jq7 (br : Br) (b : TblT) (cs : List ByteArray) := evB br Tryz.prog pbb1 [] LO0 Tryz.f62 [cP (pTb b), cP (pRw cs)]
def E_iRowOk : Entry := fun ivs => match ivs with | [.cv (.pv p), .cv (.pv q)] => [(isTb p && isRw q, cB (tblB (asTb p) && rowB (asTb p) (asRw q)), [])] | _ => []
def E_Join : Entry := fun ivs => match ivs with | [.cv (.pv p), .cv (.pv (.str s))] => [(isL p && decide ((Lib.join ((asL p).map (·.data.toList)) s.data.toList).length ≤ 1048576), cS (bs (Lib.join ((asL p).map (·.data.toList)) s.data.toList)), [])] | _ => []
def pbb2 : List (FuncId × Entry) := (62, E_iRowOk) :: (127, E_Join) :: pbb1
def jrL (br : Br) (cs : List ByteArray) := evB br Tryz.prog pbb2 [] LO0 Tryz.f99 [cP (pRw cs)]
def E_packed : Entry := fun ivs => match ivs with | [.cv (.pv q)] => [(isRw q && decide (1 ≤ (asRw q).length) && decide ((packL (asRw q)).length ≤ 1048576), cS (bs (packL (asRw q))), [])] | _ => []
def pbb3 : List (FuncId × Entry) := (99, E_packed) :: pbb2
def jkB (t : ByteArray) : Prop := t = ⟨#[94]⟩
def E_Split : Entry := fun ivs => match ivs with | [.cv (.pv (.str s)), .cv (.pv (.str t))] => [(decide (s.size ≤ 1048576) && holds (jkB t), .cv (.lst 1 9 (cutV s).length ((cutV s).map .str) false), [])] | _ => []
def pbb4 : List (FuncId × Entry) := (126, E_Split) :: pbb3
def E_unpacked : Entry := fun ivs => match ivs with
 | [.cv (.pv p), .cv (.pv (.str k)), .cv (.pv (.str v))] =>
  [(isTb p && decide (k.size ≤ 50000) && decide (v.size ≤ 50000) && tblB (asTb p) && unpB (asTb p) k v, .tup [.agg [.pv (pL (jav (asTb p) k v))], cI 0], []),
   (isTb p && decide (k.size ≤ 50000) && decide (v.size ≤ 50000) && tblB (asTb p), .tup [.agg [.pv .nils], cI 14], [])]
 | _ => []
end
section
def zzaj0 (b : TblT) (cs : List ByteArray) := (PV.agg [PV.str (TblT.name b), PV.str (TblT.glob b), PV.sl (List.length (TblT.cols b)) (List.map PV.str (TblT.cols b)), PV.sl (List.length (TblT.idxs b)) (List.map PV.str (TblT.idxs b))])
theorem jjO (b : TblT) (cs : List ByteArray) : jq7 brC b cs =
 brC (isTb (zzaj0 b cs))
 (brC (tblB (asTb (zzaj0 b cs)))
 (brC (isTb (zzaj0 b cs) && isRw (PV.agg [PV.sl (List.length cs) (List.map PV.str cs)]) && decide (1 ≤ List.length (TblT.cols (asTb (zzaj0 b cs)))))
 (some ((.cv (.pv (.bool (rowB (asTb (zzaj0 b cs)) (asRw (PV.agg [PV.sl (List.length cs) (List.map PV.str cs)]))))), [])))
 none)
 (some ((.cv (.pv (.bool false)), []))))
 none := by kernel_rfl
theorem jqs (b : TblT) (cs : List ByteArray) : jvE brC b cs =
 brC ((↑(List.length cs) : Int) == (↑(List.length (TblT.cols b)) : Int))
 (brC (decide (0 ≤ 0) && decide (0 < (↑(List.length cs) : Int)))
 (brC (Nat.blt 0 (List.length (List.drop 0 (List.map PV.str cs))) && PV.isStr (List.headD (List.drop 0 (List.map PV.str cs)) PV.nilp) && true)
 (brC (!ByteArray.toList (PV.asStr (List.headD (List.drop 0 (List.map PV.str cs)) PV.nilp)) == [])
 (brC (isL (PV.sl (List.length cs) (List.map PV.str cs)) && Nat.beq 124 107)
 (some ((.cv (.pv (.bool !decide (jaJ (asL (PV.sl (List.length cs) (List.map PV.str cs))) < List.length (asL (PV.sl (List.length cs) (List.map PV.str cs)))))), [])))
 (brC (isL (PV.sl (List.length cs) (List.map PV.str cs)) && Nat.beq 124 124)
 (some ((.cv (.pv (.bool !decide (jaH (asL (PV.sl (List.length cs) (List.map PV.str cs))) < List.length (asL (PV.sl (List.length cs) (List.map PV.str cs)))))), [])))
 none))
 (some ((.cv (.pv (.bool false)), []))))
 none)
 none)
 (some ((.cv (.pv (.bool false)), []))) := by kernel_rfl
theorem jka (cs : List ByteArray) : jrL brC cs =
 brC (decide (0 ≤ 1) && decide (1 ≤ (↑(List.length cs) : Int)) && decide ((↑(List.length cs) : Int) ≤ (↑(List.length cs) : Int)) && true && true)
 (brC (isL (PV.sl (Int.toNat (↑(List.length cs) : Int) - 1) (List.take ((Int.toNat (↑(List.length cs) : Int) - 1) * 1) (List.drop (1 * 1) (List.map PV.str cs)))) && decide (List.length (Lib.join (List.map (fun x => Array.toList (ByteArray.data x)) (asL (PV.sl (Int.toNat (↑(List.length cs) : Int) - 1) (List.take ((Int.toNat (↑(List.length cs) : Int) - 1) * 1) (List.drop (1 * 1) (List.map PV.str cs)))))) [94]) ≤ 1048576))
 (some ((.cv (.pv (.str (bs (Lib.join (List.map (fun x => Array.toList (ByteArray.data x)) (asL (PV.sl (Int.toNat (↑(List.length cs) : Int) - 1) (List.take ((Int.toNat (↑(List.length cs) : Int) - 1) * 1) (List.drop (1 * 1) (List.map PV.str cs)))))) [94])))), [])))
 none)
 none := by kernel_rfl
end
section
open Go.RowKit
theorem jpy : jad Tryz.prog pbb0 := ⟨jsx, jpn⟩
theorem jdn (s : ByteArray) : (ByteArray.toList s == ([] : List UInt8)) = s.data.toList.isEmpty := by
 rw [ByteArray.toList_eq]
 cases s.data.toList <;> rfl
theorem jtk : jab Tryz.prog 97 E_irow := jac mix jpy (lp := []) (LO := LO0) ⟨Tryz.func97, by kernel_rfl, by kernel_rfl⟩ (by kernel_rfl) fun ivs res bxs h => by
 unfold E_irow at h
 split at h
 ·rename_i p q
  obtain ⟨hc, he⟩ := pick1 h
  cases he
  simp only [nqE, decide_eq_true_eq] at hc
  obtain ⟨⟨h1, h2⟩, h3⟩ := hc
  obtain ⟨b, rfl, hb⟩ := jaz h1
  obtain ⟨cs, rfl, hs⟩ := je1 h2
  have e4 : asTb (pTb b) = b := jan b
  have e5 : asRw (pRw cs) = cs := jdj cs
  rw [e4] at h3 ⊢
  rw [e5]
  refine ⟨jao (by kernel_rfl), (jqs b cs).trans ?_⟩
  have f1 : isL (PV.sl cs.length (cs.map .str)) = true := jal hs
  have f2 : asL (PV.sl cs.length (cs.map .str)) = cs := jah cs
  have hB : decide (jaH cs < cs.length) = !cs.all cellB := jfH (p := cellB) cs
  have hl : ((cs.length : Int) == (b.cols.length : Int)) = decide (cs.length = b.cols.length) := by
   by_cases h : cs.length = b.cols.length
   ·rw [h, beq_self_eq_true, decide_eq_true rfl]
   ·rw [decide_eq_false h]; simp; omega
  rw [hl, f1, f2, hB]
  unfold rowB
  by_cases hlen : cs.length = b.cols.length
  ·cases cs with
   | nil => rw [List.length_nil] at hlen; omega
   | cons c cs =>
    rw [dT hlen, dT (show (0 : Int) < ((c :: cs).length : Int) by rw [nqH]; omega)]
    show brC (true && true) (brC (true && true && true) (brC (!(c.toList == ([] : List UInt8))) _ _) none) _ = some (cB (true && !c.data.toList.isEmpty && _), [])
    rw [jdn]
    cases c.data.toList.isEmpty with
    | true => rfl
    | false =>
     cases (c :: cs).all cellB <;> rfl
  ·rw [dF hlen]
   rfl
 ·cases h
theorem jnY : jad Tryz.prog pbb1 := ⟨jtk, jpy⟩
theorem jdL {b : TblT} (h : tblB b = true) : 1 ≤ b.cols.length ∧ b.cols.length ≤ 5 := by
 unfold tblB at h
 simp only [nqE, decide_eq_true_eq] at h
 exact ⟨h.1.1.1.1.2, h.1.1.1.2⟩
theorem jqc : jab Tryz.prog 62 E_iRowOk := jac mix jnY (lp := []) (LO := LO0) ⟨Tryz.func62, by kernel_rfl, by kernel_rfl⟩ (by kernel_rfl) fun ivs res bxs h => by
 unfold E_iRowOk at h
 split at h
 ·rename_i p q
  obtain ⟨hc, he⟩ := pick1 h
  cases he
  rw [nqE] at hc
  obtain ⟨b, rfl, hb⟩ := jaz hc.1
  obtain ⟨cs, rfl, hs⟩ := je1 hc.2
  have e4 : asTb (pTb b) = b := jan b
  have e5 : asRw (pRw cs) = cs := jdj cs
  rw [e4, e5]
  refine ⟨jao (by kernel_rfl), (jjO b cs).trans ?_⟩
  try delta zzaj0
  simp only [isTb, isRw, ja7 hb, jj2 hs, jan, jdj]
  cases hB : tblB b with
  | false => rfl
  | true =>
   rw [dT (jdL hB).1]
   rfl
 ·cases h
theorem jsY : jab Tryz.prog 127 E_Join := ⟨⟨_, Tryz.func127, by kernel_rfl, by kernel_rfl⟩, fun ivs res bxs h => by
 unfold E_Join at h
 split at h
 ·rename_i p s
  obtain ⟨hc, he⟩ := pick1 h
  cases he
  rw [nqE, decide_eq_true_eq] at hc
  obtain ⟨xs, rfl, hx⟩ := jai hc.1
  have e4 : asL (pL xs) = xs := jah xs
  rw [e4] at hc ⊢
  have hl := hx.1
  refine jaC (ps := [pL xs, .str s]) (v := .string (bs (Lib.join (xs.map (·.data.toList)) s.data.toList))) rfl fun w com vals hv hfr hgl => ?_
  obtain ⟨v, vs, rfl, hv1, hn⟩ := hv.of_cons
  obtain ⟨v2, vs2, rfl, hv2, hn2⟩ := hn.of_cons
  rw [hn2.of_nil]
  cases hv2
  cases xs with
  | nil =>
   obtain ⟨a, c, rfl, _⟩ := hv1.row hfr
   refine (Tryz.strings_Join_none a c s w).mono ?_
   rintro e w' ⟨rfl, rfl⟩
   exact ⟨by simp [Lib.join]; rfl, Below.refl _ _⟩
  | cons y ys =>
   cases hv1 with
   | sl b off n cap cs l hnc hl' h1 hcm hm he =>
    obtain ⟨a, c, hac, hr⟩ := (PRep.sl b off _ cap cs _ hnc hl' h1 hcm hm he).row hfr
    cases hac
    obtain ⟨b', off', ha, hb, hcell⟩ := hr (by simp [jap])
    cases ha
    have hj : ∀ (j : Nat) x, (y :: ys)[j]? = some x → w.cell? ⟨b, off + j, none⟩ = some (.string x) := fun j x hx' => by
     refine hcell j _ ?_
     unfold jap
     rw [List.getElem?_map, hx']
     rfl
    refine (Tryz.strings_Join b off cap (y :: ys) s w hj hb (by omega) hnc (by omega)).mono ?_
    rintro e w' ⟨rfl, hb'⟩
    exact ⟨rfl, hb'⟩
 ·cases h⟩
theorem jpu : jad Tryz.prog pbb2 := ⟨jqc, jsY, jnY⟩
theorem joU : jab Tryz.prog 99 E_packed := jac mix jpu (lp := []) (LO := LO0) ⟨Tryz.func99, by kernel_rfl, by kernel_rfl⟩ (by kernel_rfl) fun ivs res bxs h => by
 unfold E_packed at h
 split at h
 ·rename_i q
  obtain ⟨hc, he⟩ := pick1 h
  cases he
  simp only [nqE, decide_eq_true_eq] at hc
  obtain ⟨⟨h1, h2⟩, h3⟩ := hc
  obtain ⟨cs, rfl, hs⟩ := je1 h1
  have e5 : asRw (pRw cs) = cs := jdj cs
  rw [e5] at h2 h3 ⊢
  refine ⟨jao (by kernel_rfl), ?_⟩
  have tree := jka cs
  have z1 : PV.sl (Int.toNat (cs.length : Int) - 1) (List.take ((Int.toNat (cs.length : Int) - 1) * 1) (List.drop (1 * 1) (List.map PV.str cs))) = PV.sl (cs.drop 1).length ((cs.drop 1).map .str) := by
   rw [List.length_drop, nqF, Nat.mul_one, Nat.mul_one, ← List.map_drop, List.take_of_length_le (by rw [List.length_map, List.length_drop]; exact Nat.le_refl _)]
  have z2 : isL (PV.sl (cs.drop 1).length ((cs.drop 1).map .str)) = true := jal ⟨by rw [List.length_drop]; have := hs.1; omega, fun u hu => hs.2 u (List.mem_of_mem_drop hu)⟩
  have z3 : asL (PV.sl (cs.drop 1).length ((cs.drop 1).map .str)) = cs.drop 1 := jah _
  rw [z1, z2, z3] at tree
  have h3' : (Lib.join ((cs.drop 1).map (fun x => Array.toList (ByteArray.data x))) [94]).length ≤ 1048576 := h3
  simp (disch := omega) only [dT] at tree
  exact tree.trans rfl
 ·cases h
theorem jtj : jad Tryz.prog pbb3 := ⟨joU, jpu⟩
theorem jrD {b : TblT} {cs : List ByteArray} (hB : tblB b = true) (hR : rowB b cs = true) : 1 ≤ cs.length ∧ (packL cs).length ≤ 60 := by
 obtain ⟨r1, r2, r3⟩ := jrG hR
 have := jdL hB
 have := jrr r3
 omega
theorem jhe {P : Program} {g : FuncId} {ps : List PV} {k : Nat} {e : TypeId} {n : Nat} {l : List PV} (h : ∀ (w : World) (com : Nat → Nat) (vals : List Value), PReps w com vals ps → (∀ b, w.heap.size ≤ b → com b = 0) → Gl w com →
  Calls P g vals.toArray w fun ex w' => ∃ v xs, ex = .returned v ∧ w'.ownsRow w.heap.size e k v n xs ∧ PReps w com xs l ∧ (∀ u ∈ xs, u.oneCell' = true) ∧ Below w.heap.size w w') (he : e < 1000000 := by decide) : jay P g (ps.map fun p => .cv (.pv p)) (.cv (.lst k e n l false)) [] := by
 intro w com vals bs hI hnd hfresh hgl
 obtain ⟨hp, rfl⟩ := jkl hI
 refine (h w com vals hp hfresh hgl).mono ?_
 rintro ex w' ⟨v, xs, rfl, ho, hr, h1, hb⟩
 have hnew : ∀ b, v.ownBlock = some b → w.heap.size ≤ b ∧ b < w'.heap.size := fun b hv => by
  rcases ho.2 with ⟨rfl, _⟩ | ⟨g', cap, cur, rfl, hge, hg, _⟩
  ·cases hv
  ·cases hv
   refine ⟨hge, ?_⟩
   have := (Array.getElem?_eq_some_iff.1 hg).1
   exact this
 have hx : Ext w com w' (fun b => if v.ownBlock = some b then n * k else com b) := by
  refine ⟨fun b => ?_, fun b i hi => ?_⟩
  ·split
   ·rename_i hv
    rw [hfresh b (hnew b hv).1]
    exact Nat.zero_le _
   ·exact Nat.le_refl _
  ·have hlt : b < w.heap.size := by
    rcases Nat.lt_or_ge b w.heap.size with h | h
    ·exact h
    ·rw [hfresh b h] at hi; exact absurd hi (Nat.not_lt_zero _)
   exact jaC.cell_of_block (hb.block b hlt)
 have hown : w'.ownsRow 0 e k v n xs := by
  refine ⟨ho.1, ?_⟩
  rcases ho.2 with h | ⟨g', cap, cur, h1, h2, h3⟩
  ·exact .inl h
  ·exact .inr ⟨g', cap, cur, h1, Nat.zero_le _, h3⟩
 have hL : LRep w' (fun b => if v.ownBlock = some b then n * k else com b) v k e n l false xs := ⟨rowQ.of hown he, hr.mono hx, h1, fun b hv => by rw [if_pos hv]; rfl⟩
 refine ⟨v, _, v.ownBlock.toList, [], rfl, hx, ⟨hb.os, hb.tape, hb.output, hb.size, fun b hlt _ => hb.block b hlt⟩, fun b hs => ?_, fun b hlt _ => ?_, .one _ _ _ (.cv _ _ _ (.lst v k e n l false xs hL)), ?_, ?_, ?_⟩
 ·split
  ·rename_i hv
   exact absurd (hnew b hv).2 (by omega)
  ·exact hfresh b (Nat.le_trans hb.size hs)
 ·split
  ·rename_i hv
   exact absurd (hnew b hv).1 (by omega)
  ·rfl
 ·have : ∀ {ps : List PV} {vs : List Value}, vs.length = ps.length → BRep w' (fun b => if v.ownBlock = some b then n * k else com b) vs (ps.map fun p => .cv (.pv p)) [] [] := by
   intro ps
   induction ps with
   | nil => intro vs h; rw [List.length_eq_zero_iff.1 h]; exact .nil
   | cons p ps ih =>
    intro vs h
    cases vs with
    | nil => simp at h
    | cons v vs => exact .other _ _ _ _ _ _ rfl (ih (by simpa using h))
  exact this hp.1
 ·rw [List.append_nil]
  cases v.ownBlock <;> simp
 ·intro b hb'
  rw [List.append_nil] at hb'
  exact .inr (hnew b (Option.mem_toList.1 hb')).1
theorem jlh (w : World) (com : Nat → Nat) : ∀ xs : List ByteArray, PReps w com (xs.map Value.string) (xs.map PV.str)
 | [] => PReps.nil _ _
 | x :: xs => .cons (.str x) (jlh w com xs)
theorem jr2 : jab Tryz.prog 126 E_Split := ⟨⟨_, Tryz.func126, by kernel_rfl, by kernel_rfl⟩, fun ivs res bxs h => by
 unfold E_Split at h
 split at h
 ·rename_i s t
  obtain ⟨hc, he⟩ := pick1 h
  cases he
  rw [nqE, decide_eq_true_eq] at hc
  obtain rfl : t = ⟨#[94]⟩ := jam hc.2
  have hs := hc.1
  refine jhe (ps := [.str s, .str ⟨#[94]⟩]) (k := 1) (e := 9) (n := (cutV s).length) (l := (cutV s).map .str) fun w com vals hv hfr hgl => ?_
  obtain ⟨v, vs, rfl, hv1, hn⟩ := hv.of_cons
  obtain ⟨v2, vs2, rfl, hv2, hn2⟩ := hn.of_cons
  rw [hn2.of_nil]
  cases hv1
  cases hv2
  obtain ⟨m, hm, _⟩ := hgl.1
  have hlen : (cutV s).length = Lib.countB s ⟨#[94]⟩ + 1 := Lib.splitB_all ⟨#[94]⟩ (by decide) 0 _ s rfl
  have hle : Lib.countB s ⟨#[94]⟩ ≤ s.size := Lib.countB_le ⟨#[94]⟩ (by decide) s.size s (Nat.le_refl _)
  refine (Tryz.strings_Split s ⟨#[94]⟩ m w (by omega) hm (by decide)).mono ?_
  rintro e w' ⟨rfl, rfl⟩
  refine ⟨_, (cutV s).map .string, rfl, ?_, jlh _ _ _, fun u hu => ?_, Below.alloc (B := w.heap.size) (a := w) (w := w) (Below.refl _ _) (Nat.le_refl _) _⟩
  ·have := World.ownsRow_lit (base := w.heap.size) (e := 9) (size := 1) w ((cutV s).map Value.string).toArray (cutV s).length (Nat.le_refl _) (by unfold maxLen; omega) (by simp)
   rw [hlen] at this ⊢
   rw [show ((cutV s).map Value.string).toArray.toList = (cutV s).map Value.string by simp] at this
   exact this
  ·obtain ⟨x, _, rfl⟩ := List.mem_map.1 hu
   rfl
 ·cases h⟩
theorem jtO : jad Tryz.prog pbb4 := ⟨jr2, jtj⟩
end
section
open Go.RowKit
def E_place : Entry := fun ivs => match ivs with | [.cv (.pv p), .cv (.pv (.str s))] => [(isL p, cI (posS (asL p) s), [])] | _ => []
abbrev jeZ : List (Nat × List Nat × List Nat) := [(2, [0, 1, 5], [4])]
def jdB : LoopT := fun _ ls => match ls with
 | [(.pv p, none), (.pv (.str s), none), (.pv (.int .i64 i), none)] => [(isL p && (i == 0) && decide (jaw (asL p) s < (asL p).length), .ret, [aI (jaw (asL p) s)]), (isL p && (i == 0), .exit 0, [aX])]
 | _ => []
def jui (br : Br) (xs : List ByteArray) (s : ByteArray) (i : Int) := rdB br Tryz.prog [] jeZ jdB Tryz.f60 2 [] [aP (pL xs), aS s, aI i]
def jsT (br : Br) (xs : List ByteArray) (s : ByteArray) := evB br Tryz.prog [] jeZ jdB Tryz.f60 [cP (pL xs), cS s]
def pdb0 : List (FuncId × Entry) := (85, E_l02Name) :: [(60, E_place)]
def colF (cols : List ByteArray) : Nat → Nat → Bool
 | 0, _ => true
 | m + 1, i => nameB (cols.getD i ⟨#[]⟩) && decide (posS (cols.take i) (cols.getD i ⟨#[]⟩) < 0) && colF cols m (i + 1)
abbrev jgx : List (Nat × List Nat × List Nat) := [(4, [1, 3], [1, 2]), (10, [1, 4, 5], [2])]
def jel : LoopT := fun k ls => bif Nat.beq k 4 then (match ls with
 | [(.ptr x 0, some (.box [.pv (.str s), .pv (.str g), .pv p, .pv q])), (.pv (.int .i64 i), none)] =>
  [(isL p && (i == 0) && Nat.beq x 4096 && !colF (asL p) (asL p).length 0, .ret, [aBx 1 [.pv (.str s), .pv (.str g), .pv p, .pv q], aB false]),
   (isL p && (i == 0) && Nat.beq x 4096, .exit 0, [aBx 1 [.pv (.str s), .pv (.str g), .pv p, .pv q], aX])]
 | _ => []) else (match ls with
 | [(.ptr x 0, some (.box [.pv (.str s), .pv (.str g), .pv p, .pv q])), (.pv (.int .i64 a), none), (.pv (.int .i64 i), none)] =>
  [(isL p && isL q && (a == 0) && (i == 0) && Nat.beq x 4096 && !idxB (asL p) (asL q) 0, .ret, [aB false]), (isL p && isL q && (a == 0) && (i == 0) && Nat.beq x 4096, .exit 2, [aX])]
 | _ => [])
def jvB (br : Br) (s g : ByteArray) (xs : List ByteArray) (q : PV) (i : Int) := rdB br Tryz.prog pdb0 jgx jel Tryz.f46 4 [] [aBx 1 [.pv (.str s), .pv (.str g), .pv (pL xs), .pv q], aI i]
def jtS (br : Br) (s g : ByteArray) (xs ys : List ByteArray) (a i : Int) := rdB br Tryz.prog pdb0 jgx jel Tryz.f46 10 [] [aBx 1 [.pv (.str s), .pv (.str g), .pv (pL xs), .pv (pL ys)], aI a, aI i]
def q_STb (br : Br) (b : TblT) := evB br Tryz.prog pdb0 jgx jel Tryz.f46 [cP (pTb b)]
def E_STb : Entry := fun ivs => match ivs with | [.cv (.pv p)] => [(isTb p, cB (tblB (asTb p)), [])] | _ => []
def pdb1 : List (FuncId × Entry) := (46, E_STb) :: [(93, E_icell)]
abbrev jhP : List (Nat × List Nat × List Nat) := [(4, [3, 5], [4])]
def jfh : LoopT := fun _ ls => match ls with
 | [(.ptr x 0, some (.box [.pv p])), (.pv (.int .i64 i), none)] => [(isL p && (i == 0) && Nat.beq x 12288 && !(asL p).all cellB, .ret, [aB false]), (isL p && (i == 0) && Nat.beq x 12288, .exit 0, [aX])]
 | _ => []
def juG (br : Br) (cs : List ByteArray) (i : Int) := rdB br Tryz.prog pdb1 jhP jfh Tryz.f57 4 [] [aBx 3 [.pv (pL cs)], aI i]
def juS (br : Br) (b : TblT) (cs : List ByteArray) := evB br Tryz.prog pdb1 jhP jfh Tryz.f57 [cP (pTb b), cP (pRw cs)]
def pdb2 : List (FuncId × Entry) := (57, E_irow) :: pdb1
abbrev jhU : List (Nat × List Nat × List Nat) := [(4, [0, 3, 4, 5], [3])]
def jfO : LoopT := fun _ ls => match ls with
 | [(.pv (.str s), none), (.own x, some (.lst 1 e cn cl false)), (.pv (.int .i64 f), none), (.pv (.int .i64 i), none)] =>
  [(decide (s.size ≤ 50000) && Nat.beq x 12288 && Nat.beq e 9 && Nat.beq cn 0 && nilB cl && (f == 0) && (i == 0), .exit 0, [aL 3 1 9 (cutV s).length ((cutV s).map .str)])]
 | _ => []
def jvk (br : Br) (s : ByteArray) (cn : Nat) (cl : List PV) (f i : Int) := rdB br Tryz.prog [] jhU jfO Tryz.f115 4 [] [aS s, aL 3 1 9 cn cl, aI f, aI i]
def juN (br : Br) (s : ByteArray) := evB br Tryz.prog [] jhU jfO Tryz.f115 [cS s]
def E_SCut : Entry := fun ivs => match ivs with | [.cv (.pv (.str s))] => [(decide (s.size ≤ 50000), .cv (.lst 1 9 (cutV s).length ((cutV s).map .str) false), [])] | _ => []
def pdb3 : List (FuncId × Entry) := (115, E_SCut) :: pdb2
def jsB (br : Br) (b : TblT) (k v : ByteArray) := evB br Tryz.prog pdb3 [(1000000, [], [17])] LO0 Tryz.f86 [cP (pTb b), cS k, cS v]
end
section
theorem jgK (xs : List ByteArray) (s : ByteArray) (i : Int) : jui brC xs s i =
 brC (decide (i < (↑(List.length xs) : Int)))
 (brC (decide (0 ≤ i) && decide (i < (↑(List.length xs) : Int)))
 (brC (Nat.blt 0 (List.length (List.drop (Int.toNat i * 1) (List.map PV.str xs))) && PV.isStr (List.headD (List.drop (Int.toNat i * 1) (List.map PV.str xs)) PV.nilp) && true)
 (brC (ByteArray.toList (PV.asStr (List.headD (List.drop (Int.toNat i * 1) (List.map PV.str xs)) PV.nilp)) == ByteArray.toList s)
 (some (.inr (.ret, [(.pv (.int .i64 i), none)])))
 (some (.inl [(.pv (.sl (List.length xs) (List.map PV.str xs)), none), (.pv (.str s), none), (.pv (.int .i64 (IntKind.wrap .i64 (i + 1))), none)])))
 none)
 none)
 (some (.inr (.exit 0, [(.bad, none)]))) := by kernel_rfl
def zzak0 (b : TblT) (k : ByteArray) (v : ByteArray) := (PV.agg [PV.str (TblT.name b), PV.str (TblT.glob b), PV.sl (List.length (TblT.cols b)) (List.map PV.str (TblT.cols b)), PV.sl (List.length (TblT.idxs b)) (List.map PV.str (TblT.idxs b))])
theorem jnF (b : TblT) (k : ByteArray) (v : ByteArray) : jsB brC b k v =
 brC (decide ((↑(List.length (TblT.cols b)) : Int) > 1))
 (brC (decide (ByteArray.size v ≤ 50000))
 (brC (Nat.beq (List.length (List.map PV.str (cutV v))) (List.length (cutV v) * 1) && (decide (1 + List.length (cutV v) ≤ 140737488351232) && decide ((1 + List.length (cutV v)) * 16 ≤ 140737488355328)))
 (brC ((↑(List.length (TblT.cols b)) : Int) == 1)
 (brC (!ByteArray.toList v == [])
 (some ((.tup [.agg [.pv .nils], .cv (.pv (.int .i64 (Int.ofNat 14)))], [])))
 (brC (isTb (zzak0 b k v) && isRw (PV.agg [PV.sl (1 + List.length (cutV v)) (PV.str k :: List.append._f [] PUnit.unit (List.map PV.str (cutV v)))]) && decide (1 ≤ List.length (TblT.cols (asTb (zzak0 b k v)))))
 (brC (!rowB (asTb (zzak0 b k v)) (asRw (PV.agg [PV.sl (1 + List.length (cutV v)) (PV.str k :: List.append._f [] PUnit.unit (List.map PV.str (cutV v)))])))
 (some ((.tup [.agg [.pv .nils], .cv (.pv (.int .i64 (Int.ofNat 14)))], [])))
 (some ((.tup [.agg [.pv (.sl (1 + List.length (cutV v)) (PV.str k :: List.append._f [] PUnit.unit (List.map PV.str (cutV v))))], .cv (.pv (.int .i64 (Int.ofNat 0)))], []))))
 none))
 (brC (isTb (zzak0 b k v) && isRw (PV.agg [PV.sl (1 + List.length (cutV v)) (PV.str k :: List.append._f [] PUnit.unit (List.map PV.str (cutV v)))]) && decide (1 ≤ List.length (TblT.cols (asTb (zzak0 b k v)))))
 (brC (!rowB (asTb (zzak0 b k v)) (asRw (PV.agg [PV.sl (1 + List.length (cutV v)) (PV.str k :: List.append._f [] PUnit.unit (List.map PV.str (cutV v)))])))
 (some ((.tup [.agg [.pv .nils], .cv (.pv (.int .i64 (Int.ofNat 14)))], [])))
 (some ((.tup [.agg [.pv (.sl (1 + List.length (cutV v)) (PV.str k :: List.append._f [] PUnit.unit (List.map PV.str (cutV v))))], .cv (.pv (.int .i64 (Int.ofNat 0)))], []))))
 none))
 none)
 none)
 (brC ((↑(List.length (TblT.cols b)) : Int) == 1)
 (brC (!ByteArray.toList v == [])
 (some ((.tup [.agg [.pv .nils], .cv (.pv (.int .i64 (Int.ofNat 14)))], [])))
 (brC (isTb (zzak0 b k v) && isRw (PV.agg [PV.sl 1 [PV.str k]]) && decide (1 ≤ List.length (TblT.cols (asTb (zzak0 b k v)))))
 (brC (!rowB (asTb (zzak0 b k v)) (asRw (PV.agg [PV.sl 1 [PV.str k]])))
 (some ((.tup [.agg [.pv .nils], .cv (.pv (.int .i64 (Int.ofNat 14)))], [])))
 (some ((.tup [.agg [.pv (.sl 1 [PV.str k])], .cv (.pv (.int .i64 (Int.ofNat 0)))], []))))
 none))
 (brC (isTb (zzak0 b k v) && isRw (PV.agg [PV.sl 1 [PV.str k]]) && decide (1 ≤ List.length (TblT.cols (asTb (zzak0 b k v)))))
 (brC (!rowB (asTb (zzak0 b k v)) (asRw (PV.agg [PV.sl 1 [PV.str k]])))
 (some ((.tup [.agg [.pv .nils], .cv (.pv (.int .i64 (Int.ofNat 14)))], [])))
 (some ((.tup [.agg [.pv (.sl 1 [PV.str k])], .cv (.pv (.int .i64 (Int.ofNat 0)))], []))))
 none)) := by kernel_rfl
theorem jgi (s : ByteArray) (g : ByteArray) (xs : List ByteArray) (ys : List ByteArray) (a : Int) (i : Int) : jtS brC s g xs ys a i =
 brC (decide (i < (↑(List.length ys) : Int)))
 (brC (decide (0 ≤ i) && decide (i < (↑(List.length ys) : Int)))
 (brC (Nat.blt 0 (List.length (List.drop (Int.toNat i * 1) (List.map PV.str ys))) && PV.isStr (List.headD (List.drop (Int.toNat i * 1) (List.map PV.str ys)) PV.nilp) && true)
 (brC (isL (PV.sl (List.length xs) (List.map PV.str xs)))
 (brC (decide (posS (asL (PV.sl (List.length xs) (List.map PV.str xs))) (PV.asStr (List.headD (List.drop (Int.toNat i * 1) (List.map PV.str ys)) PV.nilp)) ≤ a))
 (some (.inr (.ret, [(.pv (.bool false), none)])))
 (some (.inl [(.ptr 4096 0, some (.box [.pv (.str s), .pv (.str g), .pv (.sl (List.length xs) (List.map PV.str xs)), .pv (.sl (List.length ys) (List.map PV.str ys))])), (.pv (.int .i64 (posS (asL (PV.sl (List.length xs) (List.map PV.str xs))) (PV.asStr (List.headD (List.drop (Int.toNat i * 1) (List.map PV.str ys)) PV.nilp)))), none), (.pv (.int .i64 (IntKind.wrap .i64 (i + 1))), none)])))
 none)
 none)
 none)
 (some (.inr (.exit 2, [(.bad, none)]))) := by kernel_rfl
theorem jfy (s : ByteArray) (cn : Nat) (cl : List PV) (f : Int) (i : Int) : jvk brC s cn cl f i =
 brC (decide (i ≤ (↑(ByteArray.size s) : Int)))
 (brC (i == (↑(ByteArray.size s) : Int))
 (brC (decide (0 ≤ f) && decide (f ≤ i) && decide (i ≤ (↑(ByteArray.size s) : Int)) && true && true)
 (brC (Nat.beq (List.length [PV.str (ByteArray.extract s (Int.toNat f) (Int.toNat i))]) (1 * 1) && (decide (cn + 1 ≤ 140737488351232) && decide ((cn + 1) * 16 ≤ 140737488355328)))
 (some (.inl [(.pv (.str s), none), (.own 12288, some (.lst 1 9 (cn + 1) (cl ++ [PV.str (ByteArray.extract s (Int.toNat f) (Int.toNat i))]) false)), (.pv (.int .i64 (IntKind.wrap .i64 (i + 1))), none), (.pv (.int .i64 (IntKind.wrap .i64 (i + 1))), none)]))
 none)
 none)
 (brC (decide (0 ≤ i) && decide (i < (↑(ByteArray.size s) : Int)) && true)
 (brC ((↑(UInt8.toNat (List.getD (Array.toList (ByteArray.data s)) (Int.toNat i) 0)) : Int) == 94)
 (brC (decide (0 ≤ f) && decide (f ≤ i) && decide (i ≤ (↑(ByteArray.size s) : Int)) && true && true)
 (brC (Nat.beq (List.length [PV.str (ByteArray.extract s (Int.toNat f) (Int.toNat i))]) (1 * 1) && (decide (cn + 1 ≤ 140737488351232) && decide ((cn + 1) * 16 ≤ 140737488355328)))
 (some (.inl [(.pv (.str s), none), (.own 12288, some (.lst 1 9 (cn + 1) (cl ++ [PV.str (ByteArray.extract s (Int.toNat f) (Int.toNat i))]) false)), (.pv (.int .i64 (IntKind.wrap .i64 (i + 1))), none), (.pv (.int .i64 (IntKind.wrap .i64 (i + 1))), none)]))
 none)
 none)
 (some (.inl [(.pv (.str s), none), (.own 12288, some (.lst 1 9 cn cl false)), (.pv (.int .i64 f), none), (.pv (.int .i64 (IntKind.wrap .i64 (i + 1))), none)])))
 none))
 (some (.inr (.exit 0, [(.own 12288, some (.lst 1 9 cn cl false))]))) := by kernel_rfl
theorem jpT (b : TblT) (cs : List ByteArray) : juS brC b cs =
 brC ((↑(List.length cs) : Int) != (↑(List.length (TblT.cols b)) : Int))
 (some ((.cv (.pv (.bool false)), [])))
 (brC (decide (0 ≤ 0) && decide (0 < (↑(List.length cs) : Int)))
 (brC (Nat.blt 0 (List.length (List.drop 0 (List.map PV.str cs))) && PV.isStr (List.headD (List.drop 0 (List.map PV.str cs)) PV.nilp) && true)
 (brC (ByteArray.toList (PV.asStr (List.headD (List.drop 0 (List.map PV.str cs)) PV.nilp)) == [])
 (some ((.cv (.pv (.bool false)), [])))
 (brC (isL (pL cs) && 0 == 0 && Nat.beq 12288 12288 && !List.all (asL (pL cs)) cellB)
 (some ((.cv (.pv (.bool false)), [])))
 (brC (isL (pL cs) && 0 == 0 && Nat.beq 12288 12288)
 (some ((.cv (.pv (.bool true)), [])))
 none)))
 none)
 none) := by kernel_rfl
theorem jrR (b : TblT) : q_STb brC b =
 brC (decide (ByteArray.size (TblT.name b) ≤ 1048576))
 (brC (!nameB (TblT.name b))
 (some ((.cv (.pv (.bool false)), [])))
 (brC (decide (ByteArray.size (TblT.glob b) ≤ 1048576))
 (brC (!nameB (TblT.glob b))
 (some ((.cv (.pv (.bool false)), [])))
 (brC (decide ((↑(List.length (TblT.cols b)) : Int) < 1))
 (some ((.cv (.pv (.bool false)), [])))
 (brC (decide ((↑(List.length (TblT.cols b)) : Int) > 5))
 (some ((.cv (.pv (.bool false)), [])))
 (brC (decide ((↑(List.length (TblT.idxs b)) : Int) ≥ (↑(List.length (TblT.cols b)) : Int)))
 (some ((.cv (.pv (.bool false)), [])))
 (brC (isL (pL (TblT.cols b)) && 0 == 0 && Nat.beq 4096 4096 && !colF (asL (pL (TblT.cols b))) (List.length (asL (pL (TblT.cols b)))) 0)
 (some ((.cv (.pv (.bool false)), [])))
 (brC (isL (pL (TblT.cols b)) && 0 == 0 && Nat.beq 4096 4096)
 (brC (isL (pL (TblT.cols b)) && isL (pL (TblT.idxs b)) && 0 == 0 && 0 == 0 && Nat.beq 4096 4096 && !idxB (asL (pL (TblT.cols b))) (asL (pL (TblT.idxs b))) 0)
 (some ((.cv (.pv (.bool false)), [])))
 (brC (isL (pL (TblT.cols b)) && isL (pL (TblT.idxs b)) && 0 == 0 && 0 == 0 && Nat.beq 4096 4096)
 (some ((.cv (.pv (.bool true)), [])))
 none))
 none))))))
 none))
 none := by kernel_rfl
theorem jmQ (xs : List ByteArray) (s : ByteArray) : jsT brC xs s =
 brC (isL (pL xs) && 0 == 0 && decide (jaw (asL (pL xs)) s < List.length (asL (pL xs))))
 (some ((.cv (.pv (.int .i64 (↑(jaw (asL (pL xs)) s) : Int))), [])))
 (brC (isL (pL xs) && 0 == 0)
 (some ((.cv (.pv (.int .i64 (Int.negSucc 0))), [])))
 none) := by kernel_rfl
theorem ji7 (cs : List ByteArray) (i : Int) : juG brC cs i =
 brC (decide (i < (↑(List.length cs) : Int)))
 (brC (decide (0 ≤ i) && decide (i < (↑(List.length cs) : Int)))
 (brC (Nat.blt 0 (List.length (List.drop (Int.toNat i * 1) (List.map PV.str cs))) && PV.isStr (List.headD (List.drop (Int.toNat i * 1) (List.map PV.str cs)) PV.nilp) && true)
 (brC (decide (ByteArray.size (PV.asStr (List.headD (List.drop (Int.toNat i * 1) (List.map PV.str cs)) PV.nilp)) ≤ 1048576))
 (brC (!cellB (PV.asStr (List.headD (List.drop (Int.toNat i * 1) (List.map PV.str cs)) PV.nilp)))
 (some (.inr (.ret, [(.pv (.bool false), none)])))
 (some (.inl [(.ptr 12288 0, some (.box [.pv (.sl (List.length cs) (List.map PV.str cs))])), (.pv (.int .i64 (IntKind.wrap .i64 (i + 1))), none)])))
 none)
 none)
 none)
 (some (.inr (.exit 0, [(.bad, none)]))) := by kernel_rfl
theorem jjp (s : ByteArray) (g : ByteArray) (xs : List ByteArray) (q : PV) (i : Int) : jvB brC s g xs q i =
 brC (decide (i < (↑(List.length xs) : Int)))
 (brC (decide (0 ≤ i) && decide (i < (↑(List.length xs) : Int)))
 (brC (Nat.blt 0 (List.length (List.drop (Int.toNat i * 1) (List.map PV.str xs))) && PV.isStr (List.headD (List.drop (Int.toNat i * 1) (List.map PV.str xs)) PV.nilp) && true)
 (brC (decide (ByteArray.size (PV.asStr (List.headD (List.drop (Int.toNat i * 1) (List.map PV.str xs)) PV.nilp)) ≤ 1048576))
 (brC (!nameB (PV.asStr (List.headD (List.drop (Int.toNat i * 1) (List.map PV.str xs)) PV.nilp)))
 (some (.inr (.ret, [(.ptr 4096 0, some (.box [.pv (.str s), .pv (.str g), .pv (.sl (List.length xs) (List.map PV.str xs)), .pv q])), (.pv (.bool false), none)])))
 (brC (decide (0 ≤ 0) && decide (0 ≤ i) && decide (i ≤ (↑(List.length xs) : Int)) && true && true)
 (brC (decide (0 ≤ i) && decide (i < (↑(List.length xs) : Int)))
 (brC (Nat.blt 0 (List.length (List.drop (Int.toNat i * 1) (List.map PV.str xs))) && PV.isStr (List.headD (List.drop (Int.toNat i * 1) (List.map PV.str xs)) PV.nilp) && true)
 (brC (isL (PV.sl (Int.toNat i - 0) (List.take ((Int.toNat i - 0) * 1) (List.drop (0 * 1) (List.map PV.str xs)))))
 (brC (decide (posS (asL (PV.sl (Int.toNat i - 0) (List.take ((Int.toNat i - 0) * 1) (List.drop (0 * 1) (List.map PV.str xs))))) (PV.asStr (List.headD (List.drop (Int.toNat i * 1) (List.map PV.str xs)) PV.nilp)) ≥ 0))
 (some (.inr (.ret, [(.ptr 4096 0, some (.box [.pv (.str s), .pv (.str g), .pv (.sl (List.length xs) (List.map PV.str xs)), .pv q])), (.pv (.bool false), none)])))
 (some (.inl [(.ptr 4096 0, some (.box [.pv (.str s), .pv (.str g), .pv (.sl (List.length xs) (List.map PV.str xs)), .pv q])), (.pv (.int .i64 (IntKind.wrap .i64 (i + 1))), none)])))
 none)
 none)
 none)
 none))
 none)
 none)
 none)
 (some (.inr (.exit 0, [(.ptr 4096 0, some (.box [.pv (.str s), .pv (.str g), .pv (.sl (List.length xs) (List.map PV.str xs)), .pv q])), (.bad, none)]))) := by kernel_rfl
theorem jnw (s : ByteArray) : juN brC s =
 brC (decide (ByteArray.size s ≤ 50000) && Nat.beq 12288 12288 && Nat.beq 9 9 && Nat.beq 0 0 && nilB [] && 0 == 0 && 0 == 0)
 (some ((.cv (.lst 1 9 (List.length (cutV s)) (List.map PV.str (cutV s)) false), [])))
 none := by kernel_rfl
end
section
open Go.RowKit
theorem jmh (xs : List ByteArray) (hx : shL xs) (s : ByteArray) : ∀ (m i : Nat), m + i = xs.length → LoopsTo (rdB brC Tryz.prog [] jeZ jdB Tryz.f60 2 []) [aP (pL xs), aS s, aI i]
  (if jaw (xs.drop i) s + i < xs.length then (.ret, [aI ((jaw (xs.drop i) s + i : Nat) : Int)]) else (.exit 0, [aX])) := by
 have hl := hx.1
 intro m
 induction m with
 | zero =>
  intro i hm
  obtain rfl : i = xs.length := by omega
  rw [List.drop_length, show jaw [] s = 0 from rfl, if_neg (by omega)]
  refine .done _ _ ((jgK xs s xs.length).trans ?_)
  rw [dF (by omega)]
  rfl
 | succ m ih =>
  intro i hm
  have hi : i < xs.length := by omega
  have ih' := ih (i + 1) (by omega)
  have tree := jgK xs s i
  simp (disch := omega) only [dT, nqF, jas xs i hi, nqH, List.headD_cons, PV.isStr, PV.asStr, blt0, wrap1, Bool.and_true, Bool.true_and] at tree
  rw [nqK hi]
  have hs : (xs[i].toList == s.toList) = sEq s xs[i] := by
   unfold sEq
   rw [Bool.eq_iff_iff, beq_iff_eq, beq_iff_eq]
   exact eq_comm
  rw [hs] at tree
  cases hin : sEq s xs[i] with
  | true =>
   rw [hin] at tree
   rw [show jaw (xs[i] :: xs.drop (i + 1)) s = 0 from jf5 (p := fun x => sEq s x) hin, Nat.zero_add, if_pos hi]
   exact .done _ _ tree
  | false =>
   rw [hin] at tree
   rw [show jaw (xs[i] :: xs.drop (i + 1)) s = jaw (xs.drop (i + 1)) s + 1 from jdr (p := fun x => sEq s x) hin]
   have e : jaw (xs.drop (i + 1)) s + (i + 1) = jaw (xs.drop (i + 1)) s + 1 + i := by omega
   rw [e] at ih'
   exact .step _ _ _ tree ih'
theorem jrq : jab Tryz.prog 60 E_place := jac mix (tab := []) trivial (lp := jeZ) (LO := jdB) ⟨Tryz.func60, by kernel_rfl, by kernel_rfl⟩ (by kernel_rfl) fun ivs res bxs h => by
 unfold E_place at h
 split at h
 ·rename_i p s
  obtain ⟨hc, he⟩ := pick1 h
  cases he
  obtain ⟨xs, rfl, hx⟩ := jai hc
  refine ⟨jar 2 (by kernel_rfl) (by kernel_rfl) (by kernel_rfl) ?_, (jmQ xs s).trans ?_⟩
  ·intro ls e ls' hl
   unfold jdB at hl
   split at hl
   ·rename_i p s i
    cases hg : (isL p && (i == 0)) with
    | false => rw [hg] at hl; simp only [pickA, Bool.false_and, cond_false] at hl; cases hl
    | true =>
     rw [hg, Bool.true_and] at hl
     simp only [nqE, beq_iff_eq] at hg
     obtain ⟨g1, g2⟩ := hg
     obtain ⟨ys, rfl, hy⟩ := jai g1
     simp only [jah] at hl
     rw [g2]
     have := jmh ys hy s ys.length 0 (by omega)
     rw [List.drop_zero, Nat.add_zero] at this
     by_cases hlt : jaw ys s < ys.length
     ·rw [dT hlt] at hl
      rw [if_pos hlt] at this
      cases hl
      exact this
     ·rw [dF hlt] at hl
      rw [if_neg hlt] at this
      cases hl
      exact this
   ·cases hl
  ·have e4 : asL (pL xs) = xs := jah xs
   have e5 : isL (pL xs) = true := jal hx
   rw [e4, e5]
   unfold posS
   by_cases hlt : jaw xs s < xs.length
   ·rw [dT hlt, if_pos hlt]
    rfl
   ·rw [dF hlt, if_neg hlt]
    rfl
 ·cases h
theorem jtb : jad Tryz.prog pdb0 := ⟨jgt, jrq, trivial⟩
theorem jr3 (xs : List ByteArray) (s : ByteArray) : posS xs s < 0 ↔ s ∉ xs := by
 have h := jfH (p := fun x => !sEq s x) xs
 simp only [Bool.not_not] at h
 unfold posS jaw
 by_cases hm : s ∈ xs
 ·have : (xs.all fun x => !sEq s x) = false := by
   rw [List.all_eq_false]
   exact ⟨s, hm, by rw [jly]; decide⟩
  rw [this] at h
  rw [if_pos (nqI h)]
  exact ⟨fun g => by omega, fun g => absurd hm g⟩
 ·have : (xs.all fun x => !sEq s x) = true := by
   rw [List.all_eq_true]
   intro x hx
   cases hs : sEq s x with
   | false => rfl
   | true => exact absurd (jbL.1 hs ▸ hx) hm
  rw [this] at h
  rw [if_neg (of_decide_eq_false h)]
  exact ⟨fun _ => hm, fun _ => by omega⟩
theorem jlY : ∀ (r pre : List ByteArray), pre.Nodup → (colF (pre ++ r) r.length pre.length = true ↔ (r.all nameB = true ∧ (pre ++ r).Nodup))
 | [], pre, h => by
  rw [List.append_nil]
  exact ⟨fun _ => ⟨rfl, h⟩, fun _ => rfl⟩
 | x :: r, pre, h => by
  rw [nqH]
  unfold colF
  have e1 : (pre ++ x :: r).getD pre.length ⟨#[]⟩ = x := by simp
  have e2 : (pre ++ x :: r).take pre.length = pre := List.take_left
  rw [e1, e2, nqE, nqE, decide_eq_true_eq, jr3, List.all_cons, nqE]
  by_cases hm : x ∈ pre
  ·constructor
   ·intro g
    exact absurd hm g.1.2
   ·intro g
    exact absurd rfl ((List.nodup_append.1 g.2).2.2 x hm x (by simp))
  ·have hp : (pre ++ [x]).Nodup := List.nodup_append.2 ⟨h, by simp, fun a ha b hb => by rw [List.mem_singleton.1 hb]; exact fun e => hm (e ▸ ha)⟩
   have ih := jlY r (pre ++ [x]) hp
   rw [List.append_assoc, List.singleton_append, nqG, List.length_singleton] at ih
   rw [ih]
   exact ⟨fun g => ⟨⟨g.1.1, g.2.1⟩, g.2.2⟩, fun g => ⟨⟨g.1.1, hm⟩, g.1.2, g.2⟩⟩
theorem jsG (cols : List ByteArray) : colF cols cols.length 0 = (jcO cols && cols.all nameB) := by
 have h := jlY cols [] List.nodup_nil
 rw [List.nil_append, List.length_nil] at h
 have hd : jcO cols = true ↔ cols.Nodup := @decide_eq_true_iff cols.Nodup (Classical.propDecidable _)
 rw [Bool.eq_iff_iff, h, nqE, hd]
 exact ⟨fun g => ⟨g.2, g.1⟩, fun g => ⟨g.2, g.1⟩⟩
theorem jnu (s g : ByteArray) (xs : List ByteArray) (q : PV) (hx : shL xs) : ∀ (m i : Nat), m + i = xs.length → LoopsTo (rdB brC Tryz.prog pdb0 jgx jel Tryz.f46 4 []) [aBx 1 [.pv (.str s), .pv (.str g), .pv (pL xs), .pv q], aI i]
  (if colF xs m i = true then (.exit 0, [aBx 1 [.pv (.str s), .pv (.str g), .pv (pL xs), .pv q], aX]) else (.ret, [aBx 1 [.pv (.str s), .pv (.str g), .pv (pL xs), .pv q], aB false])) := by
 have hl := hx.1
 intro m
 induction m with
 | zero =>
  intro i hm
  obtain rfl : i = xs.length := by omega
  refine .done _ _ ((jjp s g xs q xs.length).trans ?_)
  rw [dF (by omega)]
  rfl
 | succ m ih =>
  intro i hm
  have hi : i < xs.length := by omega
  have ih' := ih (i + 1) (by omega)
  have tree := jjp s g xs q i
  have z1 : PV.sl (Int.toNat (i : Int) - 0) (List.take ((Int.toNat (i : Int) - 0) * 1) (List.drop (0 * 1) (List.map PV.str xs))) = PV.sl (xs.take i).length ((xs.take i).map .str) := by
   rw [nqF, Nat.sub_zero, Nat.mul_one, Nat.zero_mul, List.drop_zero, List.length_take, Nat.min_eq_left (by omega), List.map_take]
  have z2 : isL (PV.sl (xs.take i).length ((xs.take i).map .str)) = true := jal ⟨by rw [List.length_take]; omega, fun u hu => hx.2 u (List.mem_of_mem_take hu)⟩
  have z3 : asL (PV.sl (xs.take i).length ((xs.take i).map .str)) = xs.take i := jah _
  have hsz := hx.2 xs[i] (List.getElem_mem hi)
  rw [z1, z2, z3] at tree
  simp (disch := omega) only [dT, nqF, jas xs i hi, nqH, List.headD_cons, PV.isStr, PV.asStr, blt0, wrap1, Bool.and_true, Bool.true_and] at tree
  unfold colF
  have e1 : xs.getD i ⟨#[]⟩ = xs[i] := by simp [hi]
  rw [e1]
  cases hn : nameB xs[i] with
  | false =>
   rw [hn] at tree
   rw [Bool.false_and, Bool.false_and, if_neg Bool.false_ne_true]
   exact .done _ _ tree
  | true =>
   rw [hn] at tree
   rw [Bool.true_and]
   by_cases hp : posS (xs.take i) xs[i] < 0
   ·rw [dF (show ¬ posS (xs.take i) xs[i] ≥ 0 by omega)] at tree
    rw [dT hp, Bool.true_and]
    exact .step _ _ _ tree ih'
   ·rw [dT (show posS (xs.take i) xs[i] ≥ 0 by omega)] at tree
    rw [dF hp, Bool.false_and, if_neg Bool.false_ne_true]
    exact .done _ _ tree
theorem jnm (s g : ByteArray) (xs zs : List ByteArray) (hx : shL xs) (hz : shL zs) : ∀ (m i : Nat) (a : Int), m + i = zs.length → LoopsTo (rdB brC Tryz.prog pdb0 jgx jel Tryz.f46 10 []) [aBx 1 [.pv (.str s), .pv (.str g), .pv (pL xs), .pv (pL zs)], aI a, aI i]
  (if idxB xs (zs.drop i) a = true then (.exit 2, [aX]) else (.ret, [aB false])) := by
 have hl := hz.1
 intro m
 induction m with
 | zero =>
  intro i a hm
  obtain rfl : i = zs.length := by omega
  rw [List.drop_length]
  refine .done _ _ ((jgi s g xs zs a zs.length).trans ?_)
  rw [dF (by omega)]
  rfl
 | succ m ih =>
  intro i a hm
  have hi : i < zs.length := by omega
  have ih' := ih (i + 1) (posS xs zs[i]) (by omega)
  have tree := jgi s g xs zs a i
  have e1 : isL (PV.sl xs.length (xs.map .str)) = true := jal hx
  have e2 : asL (PV.sl xs.length (xs.map .str)) = xs := jah xs
  simp (disch := omega) only [show decide ((i : Int) < (zs.length : Int)) = true from dT (by omega), show decide (0 ≤ (i : Int)) = true from dT (by omega), nqF, jas zs i hi, nqH, List.headD_cons, PV.isStr, PV.asStr, blt0, wrap1, Bool.and_true, Bool.true_and, e1, e2] at tree
  rw [nqK hi]
  show LoopsTo _ _ (if (decide (a < posS xs zs[i]) && idxB xs (zs.drop (i + 1)) (posS xs zs[i])) = true then _ else _)
  by_cases hp : posS xs zs[i] ≤ a
  ·rw [dT hp] at tree
   rw [dF (show ¬ a < posS xs zs[i] by omega), Bool.false_and, if_neg Bool.false_ne_true]
   exact .done _ _ tree
  ·rw [dF hp] at tree
   rw [dT (show a < posS xs zs[i] by omega), Bool.true_and]
   exact .step _ _ _ tree ih'
theorem jsm : jab Tryz.prog 46 E_STb := jac mix jtb (lp := jgx) (LO := jel) ⟨Tryz.func46, by kernel_rfl, by kernel_rfl⟩ (by kernel_rfl) fun ivs res bxs h => by
 unfold E_STb at h
 split at h
 ·rename_i p
  obtain ⟨hc, he⟩ := pick1 h
  cases he
  obtain ⟨b, rfl, hb⟩ := jaz hc
  obtain ⟨b1, b2, b3, b4⟩ := hb
  have e4 : asTb (pTb b) = b := jan b
  rw [e4]
  refine ⟨jom [4, 10] (by kernel_rfl) (fun k hk => ?_) (fun k hk => ?_), (jrR b).trans ?_⟩
  ·rcases List.mem_cons.1 hk with rfl | hk
   ·kernel_rfl
   ·rw [List.mem_singleton.1 hk]; kernel_rfl
  ·rcases List.mem_cons.1 hk with rfl | hk
   ·refine ⟨jao (by kernel_rfl), fun ls e ls' hl => ?_⟩
    unfold jel at hl
    rw [Nat.beq_refl, cond_true] at hl
    split at hl
    ·rename_i x s g p q i
     cases hg : (isL p && (i == 0) && Nat.beq x 4096) with
     | false => rw [hg] at hl; simp only [pickA, Bool.false_and, cond_false] at hl; cases hl
     | true =>
      rw [hg, Bool.true_and] at hl
      simp only [nqE, beq_iff_eq] at hg
      obtain ⟨⟨g1, g2⟩, g3⟩ := hg
      obtain ⟨xs, rfl, hx⟩ := jai g1
      have e1 : asL (pL xs) = xs := jah xs
      rw [e1] at hl
      have := jnu s g xs q hx xs.length 0 (by omega)
      rw [g2, nqB g3]
      cases hB : colF xs xs.length 0 with
      | true => rw [hB] at hl this; cases hl; exact this
      | false => rw [hB] at hl this; cases hl; exact this
    ·cases hl
   ·rw [List.mem_singleton.1 hk]
    refine ⟨jao (by kernel_rfl), fun ls e ls' hl => ?_⟩
    unfold jel at hl
    rw [show Nat.beq 10 4 = false from rfl, cond_false] at hl
    split at hl
    ·rename_i x s g p q a i
     cases hg : (isL p && isL q && (a == 0) && (i == 0) && Nat.beq x 4096) with
     | false => rw [hg] at hl; simp only [pickA, Bool.false_and, cond_false] at hl; cases hl
     | true =>
      rw [hg, Bool.true_and] at hl
      simp only [nqE, beq_iff_eq] at hg
      obtain ⟨⟨⟨⟨g1, g2⟩, g4⟩, g5⟩, g6⟩ := hg
      obtain ⟨xs, rfl, hx⟩ := jai g1
      obtain ⟨zs, rfl, hz⟩ := jai g2
      have e1 : asL (pL xs) = xs := jah xs
      have e2 : asL (pL zs) = zs := jah zs
      rw [e1, e2] at hl
      have := jnm s g xs zs hx hz zs.length 0 0 (by omega)
      rw [List.drop_zero] at this
      rw [g4, g5, nqB g6]
      cases hB : idxB xs zs 0 with
      | true => rw [hB] at hl this; cases hl; exact this
      | false => rw [hB] at hl this; cases hl; exact this
    ·cases hl
  ·have e3 : isL (pL b.idxs) = true := jal b4
   have e5 : asL (pL b.idxs) = b.idxs := jah b.idxs
   have e6 : isL (pL b.cols) = true := jal b3
   have e7 : asL (pL b.cols) = b.cols := jah b.cols
   simp only [e3, e5, e6, e7, dT b1, dT b2, jsG, beq_self_eq_true, Bool.and_true, Bool.true_and, Nat.beq_refl]
   have l1 : decide ((b.cols.length : Int) < 1) = !decide (1 ≤ b.cols.length) := by
    by_cases h : 1 ≤ b.cols.length
    ·rw [dT h, dF (by omega)]; rfl
    ·rw [dF h, dT (by omega)]; rfl
   have l2 : decide ((b.cols.length : Int) > 5) = !decide (b.cols.length ≤ 5) := by
    by_cases h : b.cols.length ≤ 5
    ·rw [dT h, dF (by omega)]; rfl
    ·rw [dF h, dT (by omega)]; rfl
   rw [l1, l2]
   unfold tblB
   by_cases h1 : 1 ≤ b.cols.length
   ·rw [dT h1]
    by_cases h2 : (b.idxs.length : Int) ≥ (b.cols.length : Int)
    ·have h3 : idxB b.cols b.idxs 0 = false := by
      cases hB : idxB b.cols b.idxs 0 with
      | false => rfl
      | true =>
       have := jlL b.cols b.idxs 0 hB (by omega)
       omega
     rw [dT h2, h3]
     cases nameB b.name <;> cases nameB b.glob <;> cases decide (b.cols.length ≤ 5) <;> cases jcO b.cols <;> cases b.cols.all nameB <;> rfl
    ·rw [dF h2]
     cases nameB b.name <;> cases nameB b.glob <;> cases decide (b.cols.length ≤ 5) <;> cases jcO b.cols <;> cases b.cols.all nameB <;> cases idxB b.cols b.idxs 0 <;> rfl
   ·rw [dF h1]
    cases nameB b.name <;> cases nameB b.glob <;> rfl
 ·cases h
theorem jmt : jab Tryz.prog 93 E_icell := ⟨⟨_, Tryz.func93, by kernel_rfl, by kernel_rfl⟩, fun ivs res bxs h => by
 unfold E_icell at h
 split at h
 ·rename_i s
  obtain ⟨hc, he⟩ := pick1 h
  cases he
  have hc := nqI hc
  refine jaC (ps := [.str s]) (v := .bool (cellB s)) rfl fun w com vals hv _ hgl => ?_
  obtain ⟨v, vs, rfl, hv1, hn⟩ := hv.of_cons
  rw [hn.of_nil]
  cases hv1
  refine (jkP s w (by omega)).mono ?_
  rintro e w' ⟨rfl, rfl⟩
  exact ⟨rfl, Below.refl _ _⟩
 ·cases h⟩
theorem jqa : jad Tryz.prog pdb1 := ⟨jsm, jmt, trivial⟩
theorem jql (cs : List ByteArray) (hs : shL cs) : ∀ (m i : Nat), m + i = cs.length → LoopsTo (rdB brC Tryz.prog pdb1 jhP jfh Tryz.f57 4 []) [aBx 3 [.pv (pL cs)], aI i]
  (if (cs.drop i).all cellB = true then (.exit 0, [aX]) else (.ret, [aB false])) := by
 have hl := hs.1
 intro m
 induction m with
 | zero =>
  intro i hm
  obtain rfl : i = cs.length := by omega
  rw [List.drop_length]
  refine .done _ _ ((ji7 cs cs.length).trans ?_)
  rw [dF (by omega)]
  rfl
 | succ m ih =>
  intro i hm
  have hi : i < cs.length := by omega
  have ih' := ih (i + 1) (by omega)
  have tree := ji7 cs i
  have hsz := hs.2 cs[i] (List.getElem_mem hi)
  simp (disch := omega) only [dT, nqF, jas cs i hi, nqH, List.headD_cons, PV.isStr, PV.asStr, blt0, wrap1, Bool.and_true, Bool.true_and] at tree
  rw [nqK hi, List.all_cons]
  cases hc : cellB cs[i] with
  | false =>
   rw [hc] at tree
   rw [Bool.false_and, if_neg Bool.false_ne_true]
   exact .done _ _ tree
  | true =>
   rw [hc] at tree
   rw [Bool.true_and]
   exact .step _ _ _ tree ih'
theorem jtd : jab Tryz.prog 57 E_irow := jac mix jqa (lp := jhP) (LO := jfh) ⟨Tryz.func57, by kernel_rfl, by kernel_rfl⟩ (by kernel_rfl) fun ivs res bxs h => by
 unfold E_irow at h
 split at h
 ·rename_i p q
  obtain ⟨hc, he⟩ := pick1 h
  cases he
  simp only [nqE, decide_eq_true_eq] at hc
  obtain ⟨⟨h1, h2⟩, h3⟩ := hc
  obtain ⟨b, rfl, hb⟩ := jaz h1
  obtain ⟨cs, rfl, hs⟩ := je1 h2
  have e4 : asTb (pTb b) = b := jan b
  have e5 : asRw (pRw cs) = cs := jdj cs
  rw [e4] at h3 ⊢
  rw [e5]
  refine ⟨jar 4 (by kernel_rfl) (by kernel_rfl) (by kernel_rfl) ?_, (jpT b cs).trans ?_⟩
  ·intro ls e ls' hl
   unfold jfh at hl
   split at hl
   ·rename_i x p i
    cases hg : (isL p && (i == 0) && Nat.beq x 12288) with
    | false => rw [hg] at hl; simp only [pickA, Bool.false_and, cond_false] at hl; cases hl
    | true =>
     rw [hg, Bool.true_and] at hl
     simp only [nqE, beq_iff_eq] at hg
     obtain ⟨⟨g1, g2⟩, g3⟩ := hg
     obtain ⟨ys, rfl, hy⟩ := jai g1
     have e1 : asL (pL ys) = ys := jah ys
     rw [e1] at hl
     have := jql ys hy ys.length 0 (by omega)
     rw [List.drop_zero] at this
     rw [g2, nqB g3]
     cases hB : ys.all cellB with
     | true => rw [hB] at hl this; cases hl; exact this
     | false => rw [hB] at hl this; cases hl; exact this
   ·cases hl
  ·have f1 : isL (pL cs) = true := jal hs
   have f2 : asL (pL cs) = cs := jah cs
   have hlb : ((cs.length : Int) != (b.cols.length : Int)) = !decide (cs.length = b.cols.length) := by
    by_cases h : cs.length = b.cols.length
    ·rw [h, dT rfl]; simp
    ·rw [dF h]; simp; omega
   rw [hlb, f1, f2]
   unfold rowB
   by_cases hlen : cs.length = b.cols.length
   ·cases cs with
    | nil => rw [List.length_nil] at hlen; omega
    | cons c cs =>
     rw [dT hlen, dT (show (0 : Int) < ((c :: cs).length : Int) by rw [nqH]; omega)]
     show brC (!true) _ (brC (true && true) (brC (true && true && true) (brC (c.toList == ([] : List UInt8)) _ _) none) none) = some (cB (true && !c.data.toList.isEmpty && _), [])
     rw [jdn]
     cases c.data.toList.isEmpty with
     | true => rfl
     | false =>
      cases (c :: cs).all cellB <;> rfl
   ·rw [dF hlen]
    rfl
 ·cases h
theorem jta : jad Tryz.prog pdb2 := ⟨jtd, jqa⟩
def cutP (acc r : List UInt8) : List ByteArray := (cutR acc r).map bs
theorem jsa (s : ByteArray) : cutP [] s.data.toList = cutV s := by
 unfold cutP
 rw [jsc, List.map_map]
 have : (bs ∘ fun x : ByteArray => x.data.toList) = id := by
  funext x
  exact jcf x
 rw [this, List.map_id]
theorem jnG (s : ByteArray) (hs : s.size ≤ 50000) : ∀ (m i f cn : Nat) (cl : List PV), m + i = s.size → f ≤ i → cn ≤ i → LoopsTo (rdB brC Tryz.prog [] jhU jfO Tryz.f115 4 []) [aS s, aL 3 1 9 cn cl, aI f, aI i]
  (.exit 0, [aL 3 1 9 (cn + (cutP ((s.data.toList.drop f).take (i - f)) (s.data.toList.drop i)).length) (cl ++ (cutP ((s.data.toList.drop f).take (i - f)) (s.data.toList.drop i)).map .str)]) := by
 have hsl : s.data.toList.length = s.size := (jaj s).symm
 intro m
 induction m with
 | zero =>
  intro i f cn cl hm hf hc
  obtain rfl : i = s.size := by omega
  have tree := jfy s cn cl f s.size
  have tree2 := jfy s (cn + 1) (cl ++ [PV.str (s.extract f s.size)]) ((s.size + 1 : Nat) : Int) ((s.size + 1 : Nat) : Int)
  rw [beq_self_eq_true] at tree
  simp (disch := omega) only [dT, nqF, wrap1, Bool.and_true, Bool.true_and] at tree
  rw [dF (show ¬ ((s.size + 1 : Nat) : Int) ≤ (s.size : Int) by omega)] at tree2
  have e : cutP ((s.data.toList.drop f).take (s.size - f)) (s.data.toList.drop s.size) = [s.extract f s.size] := by
   rw [List.drop_of_length_le (i := s.size) (by omega)]
   unfold cutP cutR
   rw [jgs]
   rfl
  rw [e]
  exact .step _ _ _ tree (.done _ _ tree2)
 | succ m ih =>
  intro i f cn cl hm hf hc
  have hi : i < s.size := by omega
  have hi' : i < s.data.toList.length := by omega
  have tree := jfy s cn cl f i
  have hne : ((i : Int) == (s.size : Int)) = false := by
   rw [beq_eq_false_iff_ne]
   omega
  rw [hne] at tree
  have hg : s.data.toList.getD i 0 = s.data.toList[i] := by rw [List.getD_eq_getElem?_getD, List.getElem?_eq_getElem hi', Option.getD_some]
  simp (disch := omega) only [dT, nqF, wrap1, Bool.and_true, Bool.true_and, hg] at tree
  rw [nqK hi']
  have hq : (((s.data.toList[i].toNat : Nat) : Int) == 94) = decide (s.data.toList[i] = 94) := by
   rw [Bool.eq_iff_iff, beq_iff_eq, decide_eq_true_eq]
   constructor
   ·intro h
    have h2 : s.data.toList[i].toNat = 94 := by omega
    exact UInt8.toNat.inj (h2.trans rfl)
   ·intro h
    rw [h]
    rfl
  rw [hq] at tree
  by_cases h94 : s.data.toList[i] = 94
  ·rw [dT h94] at tree
   have ih' := ih (i + 1) (i + 1) (cn + 1) (cl ++ [PV.str (s.extract f i)]) (by omega) (Nat.le_refl _) (by omega)
   have e : cutP ((s.data.toList.drop f).take (i - f)) (s.data.toList[i] :: s.data.toList.drop (i + 1)) = s.extract f i :: cutP ((s.data.toList.drop (i + 1)).take (i + 1 - (i + 1))) (s.data.toList.drop (i + 1)) := by
    unfold cutP
    rw [cutR, if_pos h94, List.map_cons, ← jgs, Nat.sub_self, List.take_zero]
   rw [e, nqH, List.map_cons]
   rw [List.append_assoc, List.singleton_append, Nat.add_assoc, Nat.add_comm 1] at ih'
   exact .step _ _ _ tree ih'
  ·rw [dF h94] at tree
   have ih' := ih (i + 1) f cn cl (by omega) (by omega) (by omega)
   have e : cutP ((s.data.toList.drop f).take (i - f)) (s.data.toList[i] :: s.data.toList.drop (i + 1)) = cutP ((s.data.toList.drop f).take (i + 1 - f)) (s.data.toList.drop (i + 1)) := by
    unfold cutP
    rw [cutR, if_neg h94]
    congr 2
    rw [show i + 1 - f = (i - f) + 1 by omega, List.take_add_one, List.getElem?_drop, show f + (i - f) = i by omega, List.getElem?_eq_getElem hi']
    rfl
   rw [e]
   exact .step _ _ _ tree ih'
theorem jtR : jab Tryz.prog 115 E_SCut := jac mix (tab := []) trivial (lp := jhU) (LO := jfO) ⟨Tryz.func115, by kernel_rfl, by kernel_rfl⟩ (by kernel_rfl) fun ivs res bxs h => by
 unfold E_SCut at h
 split at h
 ·rename_i s
  obtain ⟨hc, he⟩ := pick1 h
  cases he
  refine ⟨jar 4 (by kernel_rfl) (by kernel_rfl) (by kernel_rfl) ?_, (jnw s).trans ?_⟩
  ·intro ls e ls' hl
   unfold jfO at hl
   split at hl
   ·rename_i s x e cn cl f i
    obtain ⟨hc, he⟩ := pick1 hl
    cases he
    simp only [nqE, decide_eq_true_eq, beq_iff_eq] at hc
    obtain ⟨⟨⟨⟨⟨⟨h1, h2⟩, h3⟩, h4⟩, h5⟩, h6⟩, h7⟩ := hc
    have := jnG s h1 s.size 0 0 0 [] (by omega) (Nat.le_refl _) (Nat.le_refl _)
    rw [List.drop_zero, Nat.sub_zero, List.take_zero, jsa, Nat.zero_add, List.nil_append] at this
    rw [nqB h2, nqB h3, nqB h4, ja8 h5, h6, h7]
    exact this
   ·cases hl
  ·rw [hc, jbQ]
   rfl
 ·cases h
theorem jt1 : jad Tryz.prog pdb3 := ⟨jtR, jta⟩
theorem jtA : jab Tryz.prog 86 E_unpacked := jac mix jt1 (lp := [(1000000, [], [17])]) (LO := LO0) ⟨Tryz.func86, by kernel_rfl, by kernel_rfl⟩ (by kernel_rfl) fun ivs res bxs h => by
 unfold E_unpacked at h
 split at h
 ·rename_i p k v
  have key : ∀ b, shTb b → k.size ≤ 50000 → v.size ≤ 50000 → tblB b = true → jsB brC b k v = if unpB b k v = true then some (.tup [.agg [.pv (pL (jav b k v))], cI 0], []) else some (.tup [.agg [.pv .nils], cI 14], []) := fun b hb hk hv hB => by
   have tree := jnF b k v
   revert tree; try delta zzak0; intro tree
   obtain ⟨c1, c5⟩ := jdL hB
   have hsh := joK hv
   have fin : ∀ cs : List ByteArray, jav b k v = cs → shL cs → (decide (1 < b.cols.length) || v.data.toList.isEmpty) = true → ∀ X : Option (IV × List (List CV)), X = brC (isTb (PV.agg [PV.str b.name, PV.str b.glob, PV.sl b.cols.length (b.cols.map PV.str), PV.sl b.idxs.length (b.idxs.map PV.str)]) && isRw (PV.agg [PV.sl cs.length (cs.map .str)]) && decide (1 ≤ (asTb (PV.agg [PV.str b.name, PV.str b.glob, PV.sl b.cols.length (b.cols.map PV.str), PV.sl b.idxs.length (b.idxs.map PV.str)])).cols.length))
     (brC (!rowB (asTb (PV.agg [PV.str b.name, PV.str b.glob, PV.sl b.cols.length (b.cols.map PV.str), PV.sl b.idxs.length (b.idxs.map PV.str)])) (asRw (PV.agg [PV.sl cs.length (cs.map .str)])))
      (some (.tup [.agg [.pv .nils], cI 14], []))
      (some (.tup [.agg [.pv (pL cs)], cI 0], [])))
     none → X = if unpB b k v = true then some (.tup [.agg [.pv (pL (jav b k v))], cI 0], []) else some (.tup [.agg [.pv .nils], cI 14], []) := fun cs hcs hsc hcv X hX => by
    rw [hX]
    have f1 : isTb (PV.agg [PV.str b.name, PV.str b.glob, PV.sl b.cols.length (b.cols.map PV.str), PV.sl b.idxs.length (b.idxs.map PV.str)]) = true := ja7 hb
    have f2 : isRw (PV.agg [PV.sl cs.length (cs.map .str)]) = true := jj2 hsc
    have f3 : asTb (PV.agg [PV.str b.name, PV.str b.glob, PV.sl b.cols.length (b.cols.map PV.str), PV.sl b.idxs.length (b.idxs.map PV.str)]) = b := jan b
    have f4 : asRw (PV.agg [PV.sl cs.length (cs.map .str)]) = cs := jdj cs
    rw [f1, f2, f3, f4, dT c1]
    unfold unpB
    rw [hcs, hcv]
    cases hR : rowB b cs with
    | false => rfl
    | true => rfl
   by_cases h1 : 1 < b.cols.length
   ·have hcs : jav b k v = k :: cutV v := by rw [jb8, if_pos h1]
    have hsc : shL (k :: cutV v) := ⟨by
     have h4 := (jdt (datas (cutV v))).1
     rw [(jca v).1, List.length_map] at h4
     have hq : v.data.toList.length = v.size := by rw [Array.length_toList]; rfl
     rw [nqH]
     omega, fun u hu => by
     rcases List.mem_cons.1 hu with rfl | hu
     ·omega
     ·exact hsh.2 u hu⟩
    have hl := hsh.1
    have b1 : Nat.beq ((cutV v).map PV.str).length ((cutV v).length * 1) = true := by rw [List.length_map, Nat.mul_one]; exact Nat.beq_refl _
    have n1 : ((b.cols.length : Int) == 1) = false := by
     rw [beq_eq_false_iff_ne]
     omega
    rw [dT (show (b.cols.length : Int) > 1 by omega), dT hv, b1, n1, dT (show 1 + (cutV v).length ≤ 140737488351232 by omega), dT (show (1 + (cutV v).length) * 16 ≤ 140737488355328 by omega), Nat.add_comm 1] at tree
    exact fin _ hcs hsc (by rw [dT h1, Bool.true_or]) _ (tree.trans rfl)
   ·have hcs : jav b k v = [k] := by rw [jb8, if_neg h1]
    have hsc : shL [k] := ⟨by simp, fun u hu => by rw [List.mem_singleton.1 hu]; omega⟩
    have n1 : ((b.cols.length : Int) == 1) = true := by
     rw [beq_iff_eq]
     omega
    rw [dF (show ¬ (b.cols.length : Int) > 1 by omega), n1, jdn] at tree
    cases hv0 : v.data.toList.isEmpty with
    | true =>
     rw [hv0] at tree
     exact fin _ hcs hsc (by rw [hv0, Bool.or_true]) _ (tree.trans rfl)
    | false =>
     rw [hv0] at tree
     have hu : unpB b k v = false := by
      unfold unpB
      rw [dF h1, hv0, Bool.or_false, Bool.and_false]
     rw [hu]
     exact tree.trans rfl
  refine ⟨jao (by kernel_rfl), ?_⟩
  rcases pick2 h with ⟨hc, he⟩ | ⟨hc1, hc, he⟩
  ·cases he
   simp only [nqE, decide_eq_true_eq] at hc
   obtain ⟨⟨⟨⟨h1, h2⟩, h3⟩, h4⟩, h5⟩ := hc
   obtain ⟨b, rfl, hb⟩ := jaz h1
   have e4 : asTb (pTb b) = b := jan b
   rw [e4] at h4 h5 ⊢
   exact (key b hb h2 h3 h4).trans (by rw [if_pos h5])
  ·cases he
   simp only [nqE, decide_eq_true_eq] at hc
   obtain ⟨⟨⟨h1, h2⟩, h3⟩, h4⟩ := hc
   obtain ⟨b, rfl, hb⟩ := jaz h1
   have e4 : asTb (pTb b) = b := jan b
   rw [h1, dT h2, dT h3, e4] at hc1
   rw [e4] at h4
   rw [h4] at hc1
   exact (key b hb h2 h3 h4).trans (by rw [if_neg (by rw [show unpB b k v = false from hc1]; exact Bool.false_ne_true)])
 ·cases h
end
end
end Go.Proofs.YtbeebeamdjbkmaaGreatDoor
