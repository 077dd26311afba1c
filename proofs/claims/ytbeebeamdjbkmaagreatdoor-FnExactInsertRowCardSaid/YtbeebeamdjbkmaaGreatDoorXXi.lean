import Derived.Test.YtbeebeamdjbkmaaGreatDoorXXh
import Derived.Lib.Split
import Derived.Lib.Join
import Derived.Test.YtbeebeamdjbkmaaGreatDoorXXg
import Derived.Lib.SplitLaws
import Derived.Test.YtbeebeamdjbkmaaGreatDoorXXf
namespace Go.Proofs.YtbeebeamdjbkmaaGreatDoor
noncomputable section
set_option linter.unusedVariables false
set_option linter.unusedSimpArgs false
set_option maxRecDepth 100000
section
open Go.RowKit
theorem jrR : jab Tryz.prog 125 E_icell := ⟨⟨_, Tryz.func125, by kernel_rfl, by kernel_rfl⟩, fun ivs res bxs h => by
 unfold E_icell at h
 split at h
 ·rename_i s
  obtain ⟨hc, he⟩ := pick1 h
  cases he
  have hc := nqI hc
  refine jaF (ps := [.str s]) (v := .bool (cellB s)) rfl fun w com vals hv _ hgl => ?_
  obtain ⟨v, vs, rfl, hv1, hn⟩ := hv.of_cons
  rw [hn.of_nil]
  cases hv1
  exact jmS s w (by omega)
 ·cases h⟩
theorem PRep.row {w : World} {com : Nat → Nat} {v : Value} {xs : List ByteArray} (h : PRep w com v (pL xs)) (hf : ∀ b, w.heap.size ≤ b → com b = 0) : ∃ a c, v = .slice a xs.length c ∧ RowAt w w.heap.size a (jaq xs) := by
 cases xs with
 | nil =>
  cases h with
  | sl0 a c => exact ⟨a, c, rfl, fun h => absurd h (by simp [jaq])⟩
  | sl b off n cap cs l hnc hl h1 hcm hm he => exact ⟨_, _, rfl, fun h => absurd h (by simp [jaq])⟩
 | cons y ys =>
  cases h with
  | sl b off _ cap cs _ hnc hl h1 hcm hm he =>
   refine ⟨_, _, rfl, fun _ => ⟨b, off, rfl, ?_, ?_⟩⟩
   ·rcases Nat.lt_or_ge b w.heap.size with h | h
    ·exact h
    ·have := hcm 0 (by simp)
     rw [hf b h] at this
     exact absurd this (Nat.not_lt_zero _)
   ·intro i v hv
    have hi : i < (y :: ys).length := by
     have := (List.getElem?_eq_some_iff.1 hv).1
     simpa [jaq] using this
    have hlen : cs.length = (y :: ys).length := by rw [hl, List.length_map]
    have hj : i < cs.length := by rw [hlen]; exact hi
    have hj' : i < ((y :: ys).map PV.str).length := by rw [List.length_map]; exact hi
    have hp := he i hj hj'
    rw [List.getElem_map] at hp
    have hc := hm i cs[i] (List.getElem?_eq_getElem hj)
    rw [hc]
    have hv' : v = .string (y :: ys)[i] := by
     have : (jaq (y :: ys))[i]? = some (.string (y :: ys)[i]) := by
      unfold jaq
      rw [List.getElem?_map, List.getElem?_eq_getElem hi]
      rfl
     rw [this] at hv
     exact (Option.some.inj hv).symm
    rw [hv']
    generalize cs[i] = u at hp
    cases hp
    rfl
theorem jsX : jab Tryz.prog 105 E_dist := ⟨⟨_, Tryz.func105, by kernel_rfl, by kernel_rfl⟩, fun ivs res bxs h => by
 unfold E_dist at h
 split at h
 ·rename_i p
  obtain ⟨hc, he⟩ := pick1 h
  cases he
  obtain ⟨xs, rfl, hx⟩ := jak hc
  have e4 : asL (pL xs) = xs := jad xs
  rw [e4]
  refine jaF (ps := [pL xs]) (v := .bool (jcG xs)) rfl fun w com vals hv hfr hgl => ?_
  obtain ⟨v, vs, rfl, hv1, hn⟩ := hv.of_cons
  rw [hn.of_nil]
  obtain ⟨a, c, rfl, hr⟩ := hv1.row hfr
  have hl := hx.1
  exact ji0 xs a c (jcG xs) (by unfold jcG; congr) w (by omega) hr
 ·cases h⟩
theorem jrp : jab Tryz.prog 104 E_count := jac mix (tab := []) trivial (lp := []) (LO := LO0) ⟨Tryz.func104, by kernel_rfl, by kernel_rfl⟩ (by kernel_rfl) fun ivs res bxs h => by
 unfold E_count at h
 split at h
 ·rename_i p
  obtain ⟨hc, he⟩ := pick1 h
  cases he
  obtain ⟨xs, rfl, hx⟩ := jak hc
  have e4 : asL (pL xs) = xs := jad xs
  rw [e4]
  exact ⟨jam (by kernel_rfl), jm1 xs⟩
 ·cases h
theorem jhu : jaf Tryz.prog pab0 := ⟨jgw, jrR, trivial⟩
theorem jqZ : jab Tryz.prog 107 E_cloTa := jac mix jhu (lp := []) (LO := LO0) ⟨Tryz.func107, by kernel_rfl, by kernel_rfl⟩ (by kernel_rfl) fun ivs res bxs h => by
 unfold E_cloTa at h
 split at h
 ·rename_i s
  obtain ⟨hc, he⟩ := pick1 h
  cases he
  refine ⟨jam (by kernel_rfl), (jmJ s).trans ?_⟩
  rw [hc]
  rfl
 ·cases h
theorem jrE : jab Tryz.prog 124 E_cloRb := jac mix jhu (lp := []) (LO := LO0) ⟨Tryz.func124, by kernel_rfl, by kernel_rfl⟩ (by kernel_rfl) fun ivs res bxs h => by
 unfold E_cloRb at h
 split at h
 ·rename_i s
  obtain ⟨hc, he⟩ := pick1 h
  cases he
  refine ⟨jam (by kernel_rfl), (jlY s).trans ?_⟩
  rw [hc]
  rfl
 ·cases h
theorem jhN : jaf Tryz.prog pab1 := ⟨jqZ, jrE, jhu⟩
theorem jml (xs : List ByteArray) (hx : shL xs) : ∀ (m i : Nat), m + i = xs.length → LoopsTo (rdB brC Tryz.prog pab1 ja3 jdu Tryz.f133 2 []) [aP (pL xs), aP (.clo 107 []), aI xs.length, aI i]
  (if jaH (xs.drop i) + i < xs.length then (.ret, [aI ((jaH (xs.drop i) + i : Nat) : Int)]) else (.exit 0, [aX])) := by
 have hl := hx.1
 intro m
 induction m with
 | zero =>
  intro i hm
  obtain rfl : i = xs.length := by omega
  rw [List.drop_length, show jaH [] = 0 from rfl, if_neg (by omega)]
  refine .done _ _ ((jgs xs xs.length).trans ?_)
  rw [dF (by omega)]
  rfl
 | succ m ih =>
  intro i hm
  have hi : i < xs.length := by omega
  have ih' := ih (i + 1) (by omega)
  have tree := jgs xs i
  simp (disch := omega) only [show decide ((i : Int) < (xs.length : Int)) = true from dT (by omega), show decide (0 ≤ (i : Int)) = true from dT (by omega), nqF, jao xs i hi, nqH, List.headD_cons, PV.isStr, PV.asStr, blt0, wrap1, Bool.and_true, Bool.true_and] at tree
  have hsz := hx.2 xs[i] (List.getElem_mem hi)
  rw [dT hsz] at tree
  rw [nqK hi]
  cases hin : (!nameB xs[i]) with
  | true =>
   rw [hin] at tree
   rw [show jaH (xs[i] :: xs.drop (i + 1)) = 0 from jfj (p := fun x : ByteArray => !nameB x) hin, Nat.zero_add, if_pos hi]
   exact .done _ _ tree
  | false =>
   rw [hin] at tree
   rw [show jaH (xs[i] :: xs.drop (i + 1)) = jaH (xs.drop (i + 1)) + 1 from jdl (p := fun x : ByteArray => !nameB x) hin]
   have e : jaH (xs.drop (i + 1)) + (i + 1) = jaH (xs.drop (i + 1)) + 1 + i := by omega
   rw [e] at ih'
   exact .step _ _ _ tree ih'
theorem jrS : jab Tryz.prog 133 E_IdxTa := jac mix jhN (lp := ja3) (LO := jdu) ⟨Tryz.func133, by kernel_rfl, by kernel_rfl⟩ (by kernel_rfl) fun ivs res bxs h => by
 unfold E_IdxTa at h
 split at h
 ·rename_i p f
  obtain ⟨hc, he⟩ := pick1 h
  cases he
  rw [nqE] at hc
  obtain ⟨xs, rfl, hx⟩ := jak hc.1
  obtain rfl := nqB hc.2
  refine ⟨jar 2 (by kernel_rfl) (by kernel_rfl) (by kernel_rfl) ?_, (jmR xs).trans ?_⟩
  ·intro ls e ls' hl
   unfold jdu at hl
   split at hl
   ·rename_i p f n i
    cases hg : (isL p && Nat.beq f 107 && (n == ((asL p).length : Int)) && (i == 0)) with
    | false => rw [hg] at hl; simp only [pickA, Bool.false_and, cond_false] at hl; cases hl
    | true =>
     rw [hg, Bool.true_and] at hl
     simp only [nqE, beq_iff_eq] at hg
     obtain ⟨⟨⟨g1, g3⟩, g4⟩, g5⟩ := hg
     obtain ⟨ys, rfl, hy⟩ := jak g1
     simp only [jad] at hl g4
     rw [nqB g3, g4, g5]
     have := jml ys hy ys.length 0 (by omega)
     rw [List.drop_zero, Nat.add_zero] at this
     by_cases hlt : jaH ys < ys.length
     ·rw [dT hlt] at hl
      rw [if_pos hlt] at this
      cases hl
      exact this
     ·rw [dF hlt] at hl
      rw [if_neg hlt] at this
      cases hl
      exact this
   ·cases hl
  ·have e4 : asL (pL xs) = xs := jad xs
   rw [e4]
   simp only [jai hx, jad, isL, beq_self_eq_true, Bool.and_true, Bool.true_and, Nat.beq_refl]
   by_cases hlt : jaH xs < xs.length
   ·rw [dT hlt, if_pos hlt]
    rfl
   ·rw [dF hlt, if_neg hlt]
    rfl
 ·cases h
theorem jnB : jaf Tryz.prog pab2Ta := ⟨jrS, jhN⟩
theorem jie : jab Tryz.prog 106 E_ContTa := jac mix jnB (lp := []) (LO := LO0) ⟨Tryz.func106, by kernel_rfl, by kernel_rfl⟩ (by kernel_rfl) fun ivs res bxs h => by
 unfold E_ContTa at h
 split at h
 ·rename_i p f
  obtain ⟨hc, he⟩ := pick1 h
  cases he
  rw [nqE] at hc
  obtain ⟨xs, rfl, hx⟩ := jak hc.1
  obtain rfl := nqB hc.2
  refine ⟨jam (by kernel_rfl), (jjQ xs).trans ?_⟩
  have e4 : asL (pL xs) = xs := jad xs
  rw [e4]
  simp only [jai hx, jad, isL, ifIdx]
  rfl
 ·cases h
theorem jmH (xs : List ByteArray) (hx : shL xs) : ∀ (m i : Nat), m + i = xs.length → LoopsTo (rdB brC Tryz.prog pab1 ja3 jdJ Tryz.f133 2 []) [aP (pL xs), aP (.clo 124 []), aI xs.length, aI i]
  (if jaI (xs.drop i) + i < xs.length then (.ret, [aI ((jaI (xs.drop i) + i : Nat) : Int)]) else (.exit 0, [aX])) := by
 have hl := hx.1
 intro m
 induction m with
 | zero =>
  intro i hm
  obtain rfl : i = xs.length := by omega
  rw [List.drop_length, show jaI [] = 0 from rfl, if_neg (by omega)]
  refine .done _ _ ((jgB xs xs.length).trans ?_)
  rw [dF (by omega)]
  rfl
 | succ m ih =>
  intro i hm
  have hi : i < xs.length := by omega
  have ih' := ih (i + 1) (by omega)
  have tree := jgB xs i
  simp (disch := omega) only [show decide ((i : Int) < (xs.length : Int)) = true from dT (by omega), show decide (0 ≤ (i : Int)) = true from dT (by omega), nqF, jao xs i hi, nqH, List.headD_cons, PV.isStr, PV.asStr, blt0, wrap1, Bool.and_true, Bool.true_and] at tree
  have hsz := hx.2 xs[i] (List.getElem_mem hi)
  rw [dT hsz] at tree
  rw [nqK hi]
  cases hin : (!cellB xs[i]) with
  | true =>
   rw [hin] at tree
   rw [show jaI (xs[i] :: xs.drop (i + 1)) = 0 from jfj (p := fun x : ByteArray => !cellB x) hin, Nat.zero_add, if_pos hi]
   exact .done _ _ tree
  | false =>
   rw [hin] at tree
   rw [show jaI (xs[i] :: xs.drop (i + 1)) = jaI (xs.drop (i + 1)) + 1 from jdl (p := fun x : ByteArray => !cellB x) hin]
   have e : jaI (xs.drop (i + 1)) + (i + 1) = jaI (xs.drop (i + 1)) + 1 + i := by omega
   rw [e] at ih'
   exact .step _ _ _ tree ih'
theorem jrI : jab Tryz.prog 133 E_IdxRb := jac mix jhN (lp := ja3) (LO := jdJ) ⟨Tryz.func133, by kernel_rfl, by kernel_rfl⟩ (by kernel_rfl) fun ivs res bxs h => by
 unfold E_IdxRb at h
 split at h
 ·rename_i p f
  obtain ⟨hc, he⟩ := pick1 h
  cases he
  rw [nqE] at hc
  obtain ⟨xs, rfl, hx⟩ := jak hc.1
  obtain rfl := nqB hc.2
  refine ⟨jar 2 (by kernel_rfl) (by kernel_rfl) (by kernel_rfl) ?_, (jna xs).trans ?_⟩
  ·intro ls e ls' hl
   unfold jdJ at hl
   split at hl
   ·rename_i p f n i
    cases hg : (isL p && Nat.beq f 124 && (n == ((asL p).length : Int)) && (i == 0)) with
    | false => rw [hg] at hl; simp only [pickA, Bool.false_and, cond_false] at hl; cases hl
    | true =>
     rw [hg, Bool.true_and] at hl
     simp only [nqE, beq_iff_eq] at hg
     obtain ⟨⟨⟨g1, g3⟩, g4⟩, g5⟩ := hg
     obtain ⟨ys, rfl, hy⟩ := jak g1
     simp only [jad] at hl g4
     rw [nqB g3, g4, g5]
     have := jmH ys hy ys.length 0 (by omega)
     rw [List.drop_zero, Nat.add_zero] at this
     by_cases hlt : jaI ys < ys.length
     ·rw [dT hlt] at hl
      rw [if_pos hlt] at this
      cases hl
      exact this
     ·rw [dF hlt] at hl
      rw [if_neg hlt] at this
      cases hl
      exact this
   ·cases hl
  ·have e4 : asL (pL xs) = xs := jad xs
   rw [e4]
   simp only [jai hx, jad, isL, beq_self_eq_true, Bool.and_true, Bool.true_and, Nat.beq_refl]
   by_cases hlt : jaI xs < xs.length
   ·rw [dT hlt, if_pos hlt]
    rfl
   ·rw [dF hlt, if_neg hlt]
    rfl
 ·cases h
theorem jpq : jaf Tryz.prog pab2Rb := ⟨jrI, jhN⟩
theorem jpX : jab Tryz.prog 106 E_ContRb := jac mix jpq (lp := []) (LO := LO0) ⟨Tryz.func106, by kernel_rfl, by kernel_rfl⟩ (by kernel_rfl) fun ivs res bxs h => by
 unfold E_ContRb at h
 split at h
 ·rename_i p f
  obtain ⟨hc, he⟩ := pick1 h
  cases he
  rw [nqE] at hc
  obtain ⟨xs, rfl, hx⟩ := jak hc.1
  obtain rfl := nqB hc.2
  refine ⟨jam (by kernel_rfl), (jkF xs).trans ?_⟩
  have e4 : asL (pL xs) = xs := jad xs
  rw [e4]
  simp only [jai hx, jad, isL, ifIdx]
  rfl
 ·cases h
theorem jpS : jab Tryz.prog 106 E_ContAB := ⟨jie.1, fun ivs res bxs h => by
 unfold E_ContAB at h
 split at h
 ·rename_i p f
  rcases pick2 h with ⟨hc, he⟩ | ⟨hc1, hc, he⟩
  ·cases he
   refine jie.2 _ _ _ ?_
   unfold E_ContTa
   dsimp only
   rw [hc]
   rfl
  ·cases he
   refine jpX.2 _ _ _ ?_
   unfold E_ContRb
   dsimp only
   rw [hc]
   rfl
 ·cases h⟩
theorem jpM : jaf Tryz.prog pab3 := ⟨jo9, jrp, jsX, jpS, jff, jhu⟩
theorem jfZ {α : Type} {p : α → Bool} (xs : List α) : decide (idxW (fun x => !p x) xs < xs.length) = !xs.all p := by
 induction xs with
 | nil => rfl
 | cons x xs ih =>
  rw [List.all_cons]
  cases hp : p x with
  | false =>
   rw [jfj (p := fun x => !p x) (by rw [hp]; rfl)]
   simp
  | true =>
   rw [jdl (p := fun x => !p x) (by rw [hp]; rfl), nqH, Bool.true_and, ← ih]
   exact decide_eq_decide.2 (by omega)
theorem jqz (s g : ByteArray) (xs zs : List ByteArray) (q : PV) (hx : shL xs) (hz : shL zs) : ∀ (m i : Nat) (a : Int), m + i = zs.length → LoopsTo (rdB brC Tryz.prog pab3 jlx jih Tryz.f73 7 []) [aBx 1 [.pv (.str s), .pv (.str g), .pv (pL xs), .pv q], aI a, aP (pL zs), aI zs.length, aI i]
  (if idxB xs (zs.drop i) a = true then (.exit 0, [aX]) else (.ret, [aB false])) := by
 have hl := hz.1
 intro m
 induction m with
 | zero =>
  intro i a hm
  obtain rfl : i = zs.length := by omega
  rw [List.drop_length]
  refine .done _ _ ((jkQ s g xs zs q a zs.length zs.length).trans ?_)
  rw [dF (by omega)]
  rfl
 | succ m ih =>
  intro i a hm
  have hi : i < zs.length := by omega
  have ih' := ih (i + 1) (posS xs zs[i]) (by omega)
  have tree := jkQ s g xs zs q a zs.length i
  have e1 : isL (PV.sl xs.length (xs.map .str)) = true := jai hx
  have e2 : asL (PV.sl xs.length (xs.map .str)) = xs := jad xs
  simp (disch := omega) only [show decide ((i : Int) < (zs.length : Int)) = true from dT (by omega), show decide (0 ≤ (i : Int)) = true from dT (by omega), nqF, jao zs i hi, nqH, List.headD_cons, PV.isStr, PV.asStr, blt0, wrap1, Bool.and_true, Bool.true_and, e1, e2] at tree
  rw [nqK hi]
  have ep : (if jav xs zs[i] < xs.length then ((jav xs zs[i] : Nat) : Int) else -1) = posS xs zs[i] := rfl
  rw [ep] at tree
  show LoopsTo _ _ (if (decide (a < posS xs zs[i]) && idxB xs (zs.drop (i + 1)) (posS xs zs[i])) = true then _ else _)
  by_cases hp : posS xs zs[i] ≤ a
  ·rw [dT hp] at tree
   rw [dF (show ¬ a < posS xs zs[i] by omega), Bool.false_and, if_neg Bool.false_ne_true]
   exact .done _ _ tree
  ·rw [dF hp] at tree
   rw [dT (show a < posS xs zs[i] by omega), Bool.true_and]
   exact .step _ _ _ tree ih'
def E_ITb : Entry := fun ivs => match ivs with | [.cv (.pv p)] => [(isTb p, cB (tblB (asTb p)), [])] | _ => []
theorem ju4 : jab Tryz.prog 73 E_ITb := jac mix jpM (lp := jlx) (LO := jih) ⟨Tryz.func73, by kernel_rfl, by kernel_rfl⟩ (by kernel_rfl) fun ivs res bxs h => by
 unfold E_ITb at h
 split at h
 ·rename_i p
  obtain ⟨hc, he⟩ := pick1 h
  cases he
  obtain ⟨b, rfl, hb⟩ := jay hc
  obtain ⟨b1, b2, b3, b4⟩ := hb
  have e4 : asTb (pTb b) = b := jap b
  rw [e4]
  refine ⟨jar 7 (by kernel_rfl) (by kernel_rfl) (by kernel_rfl) ?_, (jrn b).trans ?_⟩
  ·intro ls e ls' hl
   unfold jih at hl
   split at hl
   ·rename_i x s g p q a r n i
    cases hg : (isL p && isL r && (n == ((asL r).length : Int)) && (a == 0) && (i == 0) && Nat.beq x 4096) with
    | false => rw [hg] at hl; simp only [pickA, Bool.false_and, cond_false] at hl; cases hl
    | true =>
     rw [hg, Bool.true_and] at hl
     simp only [nqE, beq_iff_eq] at hg
     obtain ⟨⟨⟨⟨⟨g1, g2⟩, g3⟩, g4⟩, g5⟩, g6⟩ := hg
     obtain ⟨xs, rfl, hx⟩ := jak g1
     obtain ⟨zs, rfl, hz⟩ := jak g2
     have e1 : asL (pL xs) = xs := jad xs
     have e2 : asL (pL zs) = zs := jad zs
     rw [e1, e2] at hl
     rw [e2] at g3
     have := jqz s g xs zs q hx hz zs.length 0 0 (by omega)
     rw [List.drop_zero] at this
     rw [g3, g4, g5, nqB g6]
     cases hB : idxB xs zs 0 with
     | true =>
      rw [hB] at hl this
      cases hl
      exact this
     | false =>
      rw [hB] at hl this
      cases hl
      exact this
   ·cases hl
  ·have e1 : isL (PV.sl b.cols.length (b.cols.map .str)) = true := jai b3
   have e2 : asL (PV.sl b.cols.length (b.cols.map .str)) = b.cols := jad b.cols
   have e3 : isL (pL b.idxs) = true := jai b4
   have e5 : asL (pL b.idxs) = b.idxs := jad b.idxs
   have e6 : isL (pL b.cols) = true := jai b3
   have e7 : asL (pL b.cols) = b.cols := jad b.cols
   have hA : decide (jaH b.cols < b.cols.length) = !b.cols.all nameB := jfZ (p := nameB) b.cols
   simp only [e1, e2, e3, e5, e6, e7, dT b1, dT b2, hA, beq_self_eq_true, Bool.and_true, Bool.true_and]
   have l1 : decide ((1 : Int) ≤ (b.cols.length : Int)) = decide (1 ≤ b.cols.length) := decide_eq_decide.2 (by omega)
   have l2 : decide ((b.cols.length : Int) ≤ 5) = decide (b.cols.length ≤ 5) := decide_eq_decide.2 (by omega)
   rw [l1, l2]
   unfold tblB
   cases nameB b.name <;> cases nameB b.glob <;> cases decide (1 ≤ b.cols.length) <;> cases decide (b.cols.length ≤ 5) <;> cases jcG b.cols <;> cases b.cols.all nameB <;> cases idxB b.cols b.idxs 0 <;> rfl
 ·cases h
end
section
theorem jmY (x : List UInt8) (l : List (List UInt8)) (sep : List UInt8) (h : l ≠ []) : Lib.join (x :: l) sep = x ++ (sep ++ Lib.join l sep) := by
 cases l with
 | nil => exact absurd rfl h
 | cons y l => unfold Lib.join; rw [List.intercalate_cons_cons]; simp
theorem join_one (x sep : List UInt8) : Lib.join [x] sep = x := by unfold Lib.join; simp
end
section
open Go.RowKit
def free (p : List UInt8) : Prop := (94 : UInt8) ∉ p
theorem jio : ∀ (l : List (List UInt8)) (m : Nat), (∀ p ∈ l, p.length ≤ m) → (Lib.join l [94]).length ≤ l.length * (m + 1)
 | [], m, _ => by simp [Lib.join]
 | [x], m, h => by
  rw [join_one]
  have := h x (by simp)
  simp
  omega
 | x :: y :: l, m, h => by
  have h1 := jio (y :: l) m (fun p hp => h p (List.mem_cons_of_mem _ hp))
  have h2 := h x (by simp)
  rw [jmY _ _ _ (by simp), nqG, nqG, List.length_singleton, nqH (a := x), Nat.add_mul]
  omega
end
section
open Go.RowKit
def E_l02Sub : Entry := fun ivs => match ivs with | [.cv (.pv (.str s))] => [(true, cB (subB s), [])] | _ => []
def E_l02Name : Entry := fun ivs => match ivs with | [.cv (.pv (.str s))] => [(decide (s.size ≤ 1048576), cB (nameB s), [])] | _ => []
def E_l02Before : Entry := fun ivs => match ivs with | [.cv (.pv (.str a)), .cv (.pv (.str b))] => [(decide (a.size ≤ 1048576) && decide (b.size ≤ 1048576), cB (bef a b), [])] | _ => []
def sab0 : List (FuncId × Entry) := [(157, E_l02Sub), (114, E_l02Name), (156, E_l02Before)]
def jq6 (br : Br) (s : ByteArray) := evB br Tryz.prog [] [] LO0 Tryz.f157 [cS s]
abbrev jb6 : List (Nat × List Nat × List Nat) := [(4, [0, 3], [2])]
def jbB : LoopT := fun _ ls => match ls with
 | [(.pv p, none), (.pv (.int .i64 i), none)] => [(isL p && (i == 0) && (asL p).any (fun s => !subB s), .ret, [aB false]), (isL p && (i == 0), .exit 0, [aX])]
 | _ => []
def jps (br : Br) (xs : List ByteArray) (i : Int) := rdB br Tryz.prog sab0 jb6 jbB Tryz.f137 4 [] [aP (pL xs), aI i]
def jnE (br : Br) (xs : List ByteArray) := evB br Tryz.prog sab0 jb6 jbB Tryz.f137 [cP (pL xs)]
def E_l02Subs : Entry := fun ivs => match ivs with | [.cv (.pv p)] => [(isL p, cB (subsB (asL p)), [])] | _ => []
abbrev ja1 : List (Nat × List Nat × List Nat) := [(2, [0, 1, 5], [0, 1, 4])]
def jb1 : List ByteArray → List ByteArray → Option Bool
 | a :: x, b :: y => if sEq a b = true then jb1 x y else some (bef a b)
 | _, _ => none
def jaM : LoopT := fun _ ls => match ls with
 | [(.pv p, none), (.pv q, none), (.pv (.int .i64 i), none)] =>
  [(isL p && isL q && (i == 0) && (jb1 (asL p) (asL q)).isSome, .ret, [aP p, aP q, aB ((jb1 (asL p) (asL q)).getD false)]), (isL p && isL q && (i == 0), .exit 0, [aP p, aP q, aX])]
 | _ => []
def jfW (br : Br) (xs ys : List ByteArray) (i : Int) := rdB br Tryz.prog sab0 ja1 jaM Tryz.f134 2 [] [aP (pL xs), aP (pL ys), aI i]
def jfX (br : Br) (xs ys : List ByteArray) := evB br Tryz.prog sab0 ja1 jaM Tryz.f134 [cP (pL xs), cP (pL ys)]
def E_l02SubsBefore : Entry := fun ivs => match ivs with | [.cv (.pv p), .cv (.pv q)] => [(isL p && isL q, cB (jbJ (asL p) (asL q)), [])] | _ => []
abbrev jb7 : List (Nat × List Nat × List Nat) := [(4, [0, 1, 5], [4])]
def sameX (xs ys : List ByteArray) : Bool := holds (xs = ys)
def jbC : LoopT := fun _ ls => match ls with
 | [(.pv p, none), (.pv q, none), (.pv (.int .i64 i), none)] =>
  [(isL p && isL q && (i == 0) && Nat.beq (asL p).length (asL q).length && !sameX (asL p) (asL q), .ret, [aB false]), (isL p && isL q && (i == 0) && Nat.beq (asL p).length (asL q).length, .exit 0, [aX])]
 | _ => []
def jnz (br : Br) (xs ys : List ByteArray) (i : Int) := rdB br Tryz.prog sab0 jb7 jbC Tryz.f177 4 [] [aP (pL xs), aP (pL ys), aI i]
def jos (br : Br) (xs ys : List ByteArray) := evB br Tryz.prog sab0 jb7 jbC Tryz.f177 [cP (pL xs), cP (pL ys)]
def E_l02Same : Entry := fun ivs => match ivs with | [.cv (.pv p), .cv (.pv q)] => [(isL p && isL q, cB (sameX (asL p) (asL q)), [])] | _ => []
def sab1 : List (FuncId × Entry) := (137, E_l02Subs) :: (134, E_l02SubsBefore) :: (177, E_l02Same) :: sab0
def jqQ (br : Br) (xs : List ByteArray) := evB br Tryz.prog sab1 [] LO0 Tryz.f116 [cP (pL xs)]
def jr2 (br : Br) (s : ByteArray) := evB br Tryz.prog sab1 [] LO0 Tryz.f85 [cS s]
def jjm (br : Br) (xs ys : List ByteArray) := evB br Tryz.prog sab1 [] LO0 Tryz.f113 [cP (pL xs), cP (pL ys)]
def jnb (br : Br) (xs ys : List ByteArray) := evB br Tryz.prog sab1 [] LO0 Tryz.f158 [cP (pL xs), cP (pL ys)]
def sab2 : List (FuncId × Entry) := (116, E_l02Subs) :: (85, E_l02Name) :: (113, E_l02SubsBefore) :: (158, E_l02Same) :: sab1
def jms (br : Br) (s : ByteArray) (xs : List ByteArray) := evB br Tryz.prog sab2 [] LO0 Tryz.f87 [cS s, cP (pL xs)]
def E_l03Place : Entry := fun ivs => match ivs with | [.cv (.pv (.str s)), .cv (.pv p)] => [(decide (s.size ≤ 1048576) && isL p, cB (jc5 s (asL p)), [])] | _ => []
def jo7 (br : Br) (a : ByteArray) (xs : List ByteArray) (b : ByteArray) (ys : List ByteArray) := evB br Tryz.prog sab2 [] LO0 Tryz.f84 [cS a, cP (pL xs), cS b, cP (pL ys)]
def E_l03Less : Entry := fun ivs => match ivs with | [.cv (.pv (.str a)), .cv (.pv p), .cv (.pv (.str b)), .cv (.pv q)] => [(isL p && isL q, cB (locLt a (asL p) b (asL q)), [])] | _ => []
def sab3 : List (FuncId × Entry) := (87, E_l03Place) :: (84, E_l03Less) :: sab2
def jnN (br : Br) (x : NodeT) := evB br Tryz.prog sab3 [] LO0 Tryz.f83 [cP (pN x)]
def E_l03Node : Entry := fun ivs => match ivs with | [.cv (.pv p)] => [(isN p, cB (nodeB (asN p)), [])] | _ => []
def sab4 : List (FuncId × Entry) := (83, E_l03Node) :: sab3
abbrev jdL : List (Nat × List Nat × List Nat) := [(4, [1, 3], [2])]
def jcA : LoopT := fun _ ls => match ls with
 | [(.ptr x 0, some (.box [.pv p])), (.pv (.int .i64 i), none)] => [(isNs p && (i == 0) && Nat.beq x 4096 && !jb2 none (asNs p), .ret, [aB false]), (isNs p && (i == 0) && Nat.beq x 4096, .exit 0, [aX])]
 | _ => []
def jqv (br : Br) (t : List NodeT) (i : Int) := rdB br Tryz.prog sab4 jdL jcA Tryz.f45 4 [] [aBx 1 [.pv (pNs t)], aI i]
def jrV (br : Br) (t : List NodeT) := evB br Tryz.prog sab4 jdL jcA Tryz.f45 [cP (pT t)]
def E_TreeOk : Entry := fun ivs => match ivs with | [.cv (.pv p)] => [(isT p, cB (treeB (asT p)), [])] | _ => []
end
section
theorem jjl (xs : List ByteArray) : jnE brC xs =
 brC (decide ((↑(List.length xs) : Int) > 4))
 (some ((.cv (.pv (.bool false)), [])))
 (brC (isL (pL xs) && 0 == 0 && List.any (asL (pL xs)) fun s => !subB s)
 (some ((.cv (.pv (.bool false)), [])))
 (brC (isL (pL xs) && 0 == 0)
 (some ((.cv (.pv (.bool true)), [])))
 none)) := by kernel_rfl
theorem jbR (xs : List ByteArray) (ys : List ByteArray) (i : Int) : jfW brC xs ys i =
 brC (decide (i < (↑(List.length xs) : Int)))
 (brC (decide (i < (↑(List.length ys) : Int)))
 (brC (decide (0 ≤ i) && decide (i < (↑(List.length xs) : Int)))
 (brC (Nat.blt 0 (List.length (List.drop (Int.toNat i * 1) (List.map PV.str xs))) && PV.isStr (List.headD (List.drop (Int.toNat i * 1) (List.map PV.str xs)) PV.nilp) && true)
 (brC (decide (0 ≤ i) && decide (i < (↑(List.length ys) : Int)))
 (brC (Nat.blt 0 (List.length (List.drop (Int.toNat i * 1) (List.map PV.str ys))) && PV.isStr (List.headD (List.drop (Int.toNat i * 1) (List.map PV.str ys)) PV.nilp) && true)
 (brC (!ByteArray.toList (PV.asStr (List.headD (List.drop (Int.toNat i * 1) (List.map PV.str xs)) PV.nilp)) == ByteArray.toList (PV.asStr (List.headD (List.drop (Int.toNat i * 1) (List.map PV.str ys)) PV.nilp)))
 (brC (decide (0 ≤ i) && decide (i < (↑(List.length xs) : Int)))
 (brC (Nat.blt 0 (List.length (List.drop (Int.toNat i * 1) (List.map PV.str xs))) && PV.isStr (List.headD (List.drop (Int.toNat i * 1) (List.map PV.str xs)) PV.nilp) && true)
 (brC (decide (0 ≤ i) && decide (i < (↑(List.length ys) : Int)))
 (brC (Nat.blt 0 (List.length (List.drop (Int.toNat i * 1) (List.map PV.str ys))) && PV.isStr (List.headD (List.drop (Int.toNat i * 1) (List.map PV.str ys)) PV.nilp) && true)
 (brC (decide (ByteArray.size (PV.asStr (List.headD (List.drop (Int.toNat i * 1) (List.map PV.str xs)) PV.nilp)) ≤ 1048576) && decide (ByteArray.size (PV.asStr (List.headD (List.drop (Int.toNat i * 1) (List.map PV.str ys)) PV.nilp)) ≤ 1048576))
 (some (.inr (.ret, [(.pv (.sl (List.length xs) (List.map PV.str xs)), none), (.pv (.sl (List.length ys) (List.map PV.str ys)), none), (.pv (.bool (bef (PV.asStr (List.headD (List.drop (Int.toNat i * 1) (List.map PV.str xs)) PV.nilp)) (PV.asStr (List.headD (List.drop (Int.toNat i * 1) (List.map PV.str ys)) PV.nilp)))), none)])))
 none)
 none)
 none)
 none)
 none)
 (some (.inl [(.pv (.sl (List.length xs) (List.map PV.str xs)), none), (.pv (.sl (List.length ys) (List.map PV.str ys)), none), (.pv (.int .i64 (IntKind.wrap .i64 (i + 1))), none)])))
 none)
 none)
 none)
 none)
 (some (.inr (.exit 0, [(.pv (.sl (List.length xs) (List.map PV.str xs)), none), (.pv (.sl (List.length ys) (List.map PV.str ys)), none), (.bad, none)]))))
 (some (.inr (.exit 0, [(.pv (.sl (List.length xs) (List.map PV.str xs)), none), (.pv (.sl (List.length ys) (List.map PV.str ys)), none), (.bad, none)]))) := by kernel_rfl
theorem jg4 (xs : List ByteArray) (ys : List ByteArray) : jnb brC xs ys =
 brC (isL (PV.sl (List.length xs) (List.map PV.str xs)) && isL (PV.sl (List.length ys) (List.map PV.str ys)))
 (some ((.cv (.pv (.bool (sameX (asL (PV.sl (List.length xs) (List.map PV.str xs))) (asL (PV.sl (List.length ys) (List.map PV.str ys)))))), [])))
 none := by kernel_rfl
theorem jkb (t : List NodeT) : jrV brC t =
 brC (decide ((↑(List.length t) : Int) > 120))
 (some ((.cv (.pv (.bool false)), [])))
 (brC (isNs (pNs t) && 0 == 0 && Nat.beq 4096 4096 && !jb2 none (asNs (pNs t)))
 (some ((.cv (.pv (.bool false)), [])))
 (brC (isNs (pNs t) && 0 == 0 && Nat.beq 4096 4096)
 (some ((.cv (.pv (.bool true)), [])))
 none)) := by kernel_rfl
theorem jh6 (xs : List ByteArray) (ys : List ByteArray) : jos brC xs ys =
 brC ((↑(List.length xs) : Int) != (↑(List.length ys) : Int))
 (some ((.cv (.pv (.bool false)), [])))
 (brC (isL (pL xs) && isL (pL ys) && 0 == 0 && Nat.beq (List.length (asL (pL xs))) (List.length (asL (pL ys))) && !sameX (asL (pL xs)) (asL (pL ys)))
 (some ((.cv (.pv (.bool false)), [])))
 (brC (isL (pL xs) && isL (pL ys) && 0 == 0 && Nat.beq (List.length (asL (pL xs))) (List.length (asL (pL ys))))
 (some ((.cv (.pv (.bool true)), [])))
 none)) := by kernel_rfl
theorem jfB (xs : List ByteArray) (ys : List ByteArray) : jjm brC xs ys =
 brC (isL (PV.sl (List.length xs) (List.map PV.str xs)) && isL (PV.sl (List.length ys) (List.map PV.str ys)))
 (some ((.cv (.pv (.bool (jbJ (asL (PV.sl (List.length xs) (List.map PV.str xs))) (asL (PV.sl (List.length ys) (List.map PV.str ys)))))), [])))
 none := by kernel_rfl
theorem jdx (xs : List ByteArray) (ys : List ByteArray) : jfX brC xs ys =
 brC (isL (pL xs) && isL (pL ys) && 0 == 0 && Option.isSome (jb1 (asL (pL xs)) (asL (pL ys))))
 (some ((.cv (.pv (.bool (Option.getD (jb1 (asL (pL xs)) (asL (pL ys))) false))), [])))
 (brC (isL (pL xs) && isL (pL ys) && 0 == 0)
 (some ((.cv (.pv (.bool (decide ((↑(List.length xs) : Int) < (↑(List.length ys) : Int))))), [])))
 none) := by kernel_rfl
theorem jg8 (s : ByteArray) (xs : List ByteArray) : jms brC s xs =
 brC (decide (ByteArray.size s ≤ 1048576))
 (brC (nameB s)
 (brC (isL (PV.sl (List.length xs) (List.map PV.str xs)))
 (some ((.cv (.pv (.bool (subsB (asL (PV.sl (List.length xs) (List.map PV.str xs)))))), [])))
 none)
 (some ((.cv (.pv (.bool false)), []))))
 none := by kernel_rfl
theorem jiG (a : ByteArray) (xs : List ByteArray) (b : ByteArray) (ys : List ByteArray) : jo7 brC a xs b ys =
 brC (Op.bytesLess (ByteArray.toList a) (ByteArray.toList b))
 (some ((.cv (.pv (.bool true)), [])))
 (brC (ByteArray.toList a == ByteArray.toList b)
 (brC (isL (PV.sl (List.length xs) (List.map PV.str xs)) && isL (PV.sl (List.length ys) (List.map PV.str ys)))
 (some ((.cv (.pv (.bool (jbJ (asL (PV.sl (List.length xs) (List.map PV.str xs))) (asL (PV.sl (List.length ys) (List.map PV.str ys)))))), [])))
 none)
 (some ((.cv (.pv (.bool false)), [])))) := by kernel_rfl
theorem jkB (s : ByteArray) : jr2 brC s =
 brC (decide (ByteArray.size s ≤ 1048576))
 (some ((.cv (.pv (.bool (nameB s))), [])))
 none := by kernel_rfl
theorem jiQ (x : NodeT) : jnN brC x =
 brC (decide (ByteArray.size (NodeT.name x) ≤ 1048576) && isL (PV.sl (List.length (NodeT.subs x)) (List.map PV.str (NodeT.subs x))))
 (brC (jc5 (NodeT.name x) (asL (PV.sl (List.length (NodeT.subs x)) (List.map PV.str (NodeT.subs x)))))
 (some ((.cv (.pv (.bool (decide ((↑(ByteArray.size (NodeT.value x)) : Int) ≤ 64)))), [])))
 (some ((.cv (.pv (.bool false)), []))))
 none := by kernel_rfl
theorem jfH (t : List NodeT) (i : Int) : jqv brC t i =
 brC (decide (i < (↑(List.length t) : Int)))
 (brC (decide (0 ≤ i) && decide (i < (↑(List.length t) : Int)))
 (brC (Nat.ble 3 (List.length (List.drop (Int.toNat i * 3) (encN t))) && (PV.isStr (List.headD (List.drop (Int.toNat i * 3) (encN t)) PV.nilp) && (PV.isSl (List.headD (List.tail (List.drop (Int.toNat i * 3) (encN t))) PV.nilp) && (PV.isStr (List.headD (List.tail (List.tail (List.drop (Int.toNat i * 3) (encN t)))) PV.nilp) && true && true) && true) && true) && true)
 (brC (isN (PV.agg [PV.str (PV.asStr (List.headD (List.drop (Int.toNat i * 3) (encN t)) PV.nilp)), PV.sl (PV.slN (List.headD (List.tail (List.drop (Int.toNat i * 3) (encN t))) PV.nilp)) (PV.slL (List.headD (List.tail (List.drop (Int.toNat i * 3) (encN t))) PV.nilp)), PV.str (PV.asStr (List.headD (List.tail (List.tail (List.drop (Int.toNat i * 3) (encN t)))) PV.nilp))]))
 (brC (!nodeB (asN (PV.agg [PV.str (PV.asStr (List.headD (List.drop (Int.toNat i * 3) (encN t)) PV.nilp)), PV.sl (PV.slN (List.headD (List.tail (List.drop (Int.toNat i * 3) (encN t))) PV.nilp)) (PV.slL (List.headD (List.tail (List.drop (Int.toNat i * 3) (encN t))) PV.nilp)), PV.str (PV.asStr (List.headD (List.tail (List.tail (List.drop (Int.toNat i * 3) (encN t)))) PV.nilp))])))
 (some (.inr (.ret, [(.pv (.bool false), none)])))
 (brC (decide (i > 0))
 (brC (decide (0 ≤ IntKind.wrap .i64 (i - 1)) && decide (IntKind.wrap .i64 (i - 1) < (↑(List.length t) : Int)))
 (brC (Nat.blt 0 (List.length (List.drop 0 (List.drop (Int.toNat (IntKind.wrap .i64 (i - 1)) * 3) (encN t)))) && PV.isStr (List.headD (List.drop 0 (List.drop (Int.toNat (IntKind.wrap .i64 (i - 1)) * 3) (encN t))) PV.nilp) && true)
 (brC (decide (0 ≤ IntKind.wrap .i64 (i - 1)) && decide (IntKind.wrap .i64 (i - 1) < (↑(List.length t) : Int)))
 (brC (Nat.blt 0 (List.length (List.drop 1 (List.drop (Int.toNat (IntKind.wrap .i64 (i - 1)) * 3) (encN t)))) && PV.isSl (List.headD (List.drop 1 (List.drop (Int.toNat (IntKind.wrap .i64 (i - 1)) * 3) (encN t))) PV.nilp) && true)
 (brC (isL (PV.sl (PV.slN (List.headD (List.drop 1 (List.drop (Int.toNat (IntKind.wrap .i64 (i - 1)) * 3) (encN t))) PV.nilp)) (PV.slL (List.headD (List.drop 1 (List.drop (Int.toNat (IntKind.wrap .i64 (i - 1)) * 3) (encN t))) PV.nilp))) && isL (PV.sl (PV.slN (List.headD (List.tail (List.drop (Int.toNat i * 3) (encN t))) PV.nilp)) (PV.slL (List.headD (List.tail (List.drop (Int.toNat i * 3) (encN t))) PV.nilp))))
 (brC (!locLt (PV.asStr (List.headD (List.drop 0 (List.drop (Int.toNat (IntKind.wrap .i64 (i - 1)) * 3) (encN t))) PV.nilp)) (asL (PV.sl (PV.slN (List.headD (List.drop 1 (List.drop (Int.toNat (IntKind.wrap .i64 (i - 1)) * 3) (encN t))) PV.nilp)) (PV.slL (List.headD (List.drop 1 (List.drop (Int.toNat (IntKind.wrap .i64 (i - 1)) * 3) (encN t))) PV.nilp)))) (PV.asStr (List.headD (List.drop (Int.toNat i * 3) (encN t)) PV.nilp)) (asL (PV.sl (PV.slN (List.headD (List.tail (List.drop (Int.toNat i * 3) (encN t))) PV.nilp)) (PV.slL (List.headD (List.tail (List.drop (Int.toNat i * 3) (encN t))) PV.nilp)))))
 (some (.inr (.ret, [(.pv (.bool false), none)])))
 (some (.inl [(.ptr 4096 0, some (.box [.pv (.sl (List.length t) (encN t))])), (.pv (.int .i64 (IntKind.wrap .i64 (i + 1))), none)])))
 none)
 none)
 none)
 none)
 none)
 (some (.inl [(.ptr 4096 0, some (.box [.pv (.sl (List.length t) (encN t))])), (.pv (.int .i64 (IntKind.wrap .i64 (i + 1))), none)]))))
 none)
 none)
 none)
 (some (.inr (.exit 0, [(.bad, none)]))) := by kernel_rfl
theorem jjU (xs : List ByteArray) : jqQ brC xs =
 brC (isL (PV.sl (List.length xs) (List.map PV.str xs)))
 (some ((.cv (.pv (.bool (subsB (asL (PV.sl (List.length xs) (List.map PV.str xs)))))), [])))
 none := by kernel_rfl
theorem jjO (s : ByteArray) : jq6 brC s =
 brC (decide ((↑(ByteArray.size s) : Int) ≥ 1))
 (some ((.cv (.pv (.bool (decide ((↑(ByteArray.size s) : Int) ≤ 24)))), [])))
 (some ((.cv (.pv (.bool false)), []))) := by kernel_rfl
theorem jev (xs : List ByteArray) (i : Int) : jps brC xs i =
 brC (decide (i < (↑(List.length xs) : Int)))
 (brC (decide (0 ≤ i) && decide (i < (↑(List.length xs) : Int)))
 (brC (Nat.blt 0 (List.length (List.drop (Int.toNat i * 1) (List.map PV.str xs))) && PV.isStr (List.headD (List.drop (Int.toNat i * 1) (List.map PV.str xs)) PV.nilp) && true)
 (brC (!subB (PV.asStr (List.headD (List.drop (Int.toNat i * 1) (List.map PV.str xs)) PV.nilp)))
 (some (.inr (.ret, [(.pv (.bool false), none)])))
 (some (.inl [(.pv (.sl (List.length xs) (List.map PV.str xs)), none), (.pv (.int .i64 (IntKind.wrap .i64 (i + 1))), none)])))
 none)
 none)
 (some (.inr (.exit 0, [(.bad, none)]))) := by kernel_rfl
theorem jem (xs : List ByteArray) (ys : List ByteArray) (i : Int) : jnz brC xs ys i =
 brC (decide (i < (↑(List.length xs) : Int)))
 (brC (decide (0 ≤ i) && decide (i < (↑(List.length xs) : Int)))
 (brC (Nat.blt 0 (List.length (List.drop (Int.toNat i * 1) (List.map PV.str xs))) && PV.isStr (List.headD (List.drop (Int.toNat i * 1) (List.map PV.str xs)) PV.nilp) && true)
 (brC (decide (0 ≤ i) && decide (i < (↑(List.length ys) : Int)))
 (brC (Nat.blt 0 (List.length (List.drop (Int.toNat i * 1) (List.map PV.str ys))) && PV.isStr (List.headD (List.drop (Int.toNat i * 1) (List.map PV.str ys)) PV.nilp) && true)
 (brC (!ByteArray.toList (PV.asStr (List.headD (List.drop (Int.toNat i * 1) (List.map PV.str xs)) PV.nilp)) == ByteArray.toList (PV.asStr (List.headD (List.drop (Int.toNat i * 1) (List.map PV.str ys)) PV.nilp)))
 (some (.inr (.ret, [(.pv (.bool false), none)])))
 (some (.inl [(.pv (.sl (List.length xs) (List.map PV.str xs)), none), (.pv (.sl (List.length ys) (List.map PV.str ys)), none), (.pv (.int .i64 (IntKind.wrap .i64 (i + 1))), none)])))
 none)
 none)
 none)
 none)
 (some (.inr (.exit 0, [(.bad, none)]))) := by kernel_rfl
end
section
open Go.RowKit
theorem jpa : jab Tryz.prog 157 E_l02Sub := jac mix (tab := []) trivial (lp := []) (LO := LO0) ⟨Tryz.func157, by kernel_rfl, by kernel_rfl⟩ (by kernel_rfl) fun ivs res bxs h => by
 unfold E_l02Sub at h
 split at h
 ·rename_i s
  cases h
  refine ⟨jam (by kernel_rfl), (jjO s).trans ?_⟩
  unfold subB
  by_cases h1 : 1 ≤ s.size
  ·rw [dT (show (s.size : Int) ≥ 1 by omega), dT h1, show decide ((s.size : Int) ≤ 24) = decide (s.size ≤ 24) by rw [decide_eq_decide]; omega]
   rfl
  ·rw [dF (show ¬ (s.size : Int) ≥ 1 by omega), dF h1]
   rfl
 ·cases h
theorem jmz : jab Tryz.prog 114 E_l02Name := ⟨⟨_, Tryz.func114, by kernel_rfl, by kernel_rfl⟩, fun ivs res bxs h => by
 unfold E_l02Name at h
 split at h
 ·rename_i s
  obtain ⟨hc, he⟩ := pick1 h
  cases he
  have hs : s.size ≤ 1048576 := nqI hc
  refine jbx (ps := [.str s]) (v := .bool (nameB s)) rfl fun w com vals hv _ => ?_
  obtain ⟨v, vs, rfl, hv, hn⟩ := hv.of_cons
  rw [hn.of_nil]
  cases hv
  refine (jkI s _ rfl w (by omega)).mono ?_
  rintro e w' ⟨rfl, rfl⟩
  exact ⟨rfl, Below.refl _ _⟩
 ·cases h⟩
theorem jin : jab Tryz.prog 156 E_l02Before := ⟨⟨_, Tryz.func156, by kernel_rfl, by kernel_rfl⟩, fun ivs res bxs h => by
 unfold E_l02Before at h
 split at h
 ·rename_i a b
  obtain ⟨hc, he⟩ := pick1 h
  cases he
  rw [nqE, decide_eq_true_eq, decide_eq_true_eq] at hc
  refine jbx (ps := [.str a, .str b]) (v := .bool (bef a b)) rfl fun w com vals hv _ => ?_
  obtain ⟨v, vs, rfl, hv1, hn⟩ := hv.of_cons
  obtain ⟨v2, vs2, rfl, hv2, hn2⟩ := hn.of_cons
  rw [hn2.of_nil]
  cases hv1
  cases hv2
  exact jhv a b w (by omega) (by omega)
 ·cases h⟩
theorem jhB : jaf Tryz.prog sab0 := ⟨jpa, jmz, jin, trivial⟩
theorem jja (xs : List ByteArray) (h : shL xs) : LoopsTo (rdB brC Tryz.prog sab0 jb6 jbB Tryz.f137 4 []) [aP (pL xs), aI 0] (if (xs.any fun s => !subB s) = true then (.ret, [aB false]) else (.exit 0, [aX])) := by
 have := jd7 (f := rdB brC Tryz.prog sab0 jb6 jbB Tryz.f137 4 []) xs (fun i (_ : Unit) => [aP (pL xs), aI i]) (fun x _ => if (!subB x) = true then .inr (.ret, [aB false]) else .inl ()) (fun _ => (.exit 0, [aX])) (fun _ _ => True) ?_ ?_ (b := ()) trivial
 ·rw [jov] at this
  exact this
 ·intro i hi _ _
  have hl := h.1
  have tree := jev xs i
  simp (disch := omega) only [dT, nqF, jao xs i hi, nqH, List.headD_cons, PV.isStr, PV.asStr, blt0, wrap1, Bool.and_true] at tree
  cases hb : subB xs[i] with
  | true =>
   rw [hb] at tree
   exact .inl ⟨(), rfl, trivial, tree⟩
  | false =>
   rw [hb] at tree
   exact .inr ⟨_, rfl, tree⟩
 ·intro _ _
  refine (jev xs xs.length).trans ?_
  rw [dF (by omega)]
  rfl
theorem jmX : jab Tryz.prog 137 E_l02Subs := jac mix jhB (lp := jb6) (LO := jbB) ⟨Tryz.func137, by kernel_rfl, by kernel_rfl⟩ (by kernel_rfl) fun ivs res bxs h => by
 unfold E_l02Subs at h
 split at h
 ·rename_i p
  obtain ⟨hc, he⟩ := pick1 h
  cases he
  obtain ⟨xs, rfl, hx⟩ := jak hc
  refine ⟨jar 4 (by kernel_rfl) (by kernel_rfl) (by kernel_rfl) ?_, (jjl xs).trans ?_⟩
  ·intro ls e ls' hl
   unfold jbB at hl
   split at hl
   ·rename_i q i
    cases hg : (isL q && (i == 0)) with
    | false => rw [hg] at hl; simp only [pickA, Bool.false_and, cond_false] at hl; cases hl
    | true =>
     rw [hg, Bool.true_and] at hl
     simp only [nqE, beq_iff_eq] at hg
     obtain ⟨ys, rfl, hy⟩ := jak hg.1
     obtain rfl := hg.2
     simp only [jad] at hl
     have := jja ys hy
     cases ha : (ys.any fun s => !subB s) <;> rw [ha] at hl this <;> cases hl <;> exact this
   ·cases hl
  ·simp only [jai hx, jad, beq_self_eq_true, Bool.and_true, Bool.true_and]
   unfold subsB
   have e : (xs.all subB) = !(xs.any fun s => !subB s) := by rw [List.any_eq_not_all_not]; simp
   rw [e]
   by_cases h4 : xs.length ≤ 4
   ·rw [dF (show ¬ (xs.length : Int) > 4 by omega), dT h4]
    cases (xs.any fun s => !subB s) <;> rfl
   ·rw [dT (show (xs.length : Int) > 4 by omega), dF h4]
    rfl
 ·cases h
theorem jje : ∀ xs ys : List ByteArray, ∀ (A B : AV × Option Ob), foldS (fun (z : ByteArray × ByteArray) (_ : Unit) => if sEq z.1 z.2 = true then .inl () else .inr ((Ex.ret, [A, B, aB (bef z.1 z.2)]) : Ex × LS)) (fun _ => (.exit 0, [A, B, aX])) (xs.zip ys) () =
  match jb1 xs ys with | some r => (.ret, [A, B, aB r]) | none => (.exit 0, [A, B, aX])
 | [], _, A, B => by rw [List.zip_nil_left]; rfl
 | _ :: _, [], A, B => by rw [List.zip_nil_right]; rfl
 | a :: x, b :: y, A, B => by
  rw [List.zip_cons_cons]
  unfold foldS jb1
  dsimp only
  cases hs : sEq a b with
  | true => rw [if_pos rfl, if_pos rfl]; exact jje x y A B
  | false => rw [if_neg Bool.false_ne_true, if_neg Bool.false_ne_true]
theorem jf5 : ∀ xs ys : List ByteArray, jbJ xs ys = match jb1 xs ys with | some r => r | none => decide (xs.length < ys.length)
 | [], [] => rfl
 | _ :: _, [] => rfl
 | [], _ :: _ => rfl
 | a :: x, b :: y => by
  unfold jbJ jb1
  cases hs : sEq a b with
  | true =>
   rw [if_pos rfl, if_pos rfl, jf5 x y]
   cases jb1 x y with
   | some r => rfl
   | none =>
    show decide (x.length < y.length) = decide (x.length + 1 < y.length + 1)
    rw [decide_eq_decide]; omega
  | false => rw [if_neg Bool.false_ne_true, if_neg Bool.false_ne_true]
theorem jdR (xs ys : List ByteArray) (h : shL xs) (k : shL ys) : LoopsTo (rdB brC Tryz.prog sab0 ja1 jaM Tryz.f134 2 []) [aP (pL xs), aP (pL ys), aI 0]
  (match jb1 xs ys with | some r => (.ret, [aP (pL xs), aP (pL ys), aB r]) | none => (.exit 0, [aP (pL xs), aP (pL ys), aX])) := by
 have := jd7 (f := rdB brC Tryz.prog sab0 ja1 jaM Tryz.f134 2 []) (xs.zip ys) (fun i (_ : Unit) => [aP (pL xs), aP (pL ys), aI i])
  (fun z _ => if sEq z.1 z.2 = true then .inl () else .inr (.ret, [aP (pL xs), aP (pL ys), aB (bef z.1 z.2)])) (fun _ => (.exit 0, [aP (pL xs), aP (pL ys), aX])) (fun _ _ => True) ?_ ?_ (b := ()) trivial
 ·rw [jje] at this
  exact this
 ·intro i hi _ _
  have hl := h.1
  have hkl := k.1
  rw [List.length_zip] at hi
  have hix : i < xs.length := by omega
  have hiy : i < ys.length := by omega
  have s1 := jlv h hix
  have s2 := jlv k hiy
  have tree := jbR xs ys i
  simp (disch := omega) only [dT, nqF, jao xs i hix, jao ys i hiy, nqH, List.headD_cons, PV.isStr, PV.asStr, blt0, wrap1, Bool.and_true] at tree
  rw [List.getElem_zip]
  cases hb : sEq xs[i] ys[i] with
  | true =>
   have hb' : (ByteArray.toList xs[i] == ByteArray.toList ys[i]) = true := hb
   rw [hb'] at tree
   exact .inl ⟨(), rfl, trivial, tree⟩
  | false =>
   have hb' : (ByteArray.toList xs[i] == ByteArray.toList ys[i]) = false := hb
   rw [hb'] at tree
   exact .inr ⟨_, rfl, tree⟩
 ·intro _ _
  refine (jbR xs ys (xs.zip ys).length).trans ?_
  rw [List.length_zip]
  by_cases hle : xs.length ≤ ys.length
  ·rw [Nat.min_eq_left hle, dF (by omega)]
   rfl
  ·rw [Nat.min_eq_right (by omega), dF (show ¬ (ys.length : Int) < (ys.length : Int) by omega), dT (show (ys.length : Int) < (xs.length : Int) by omega)]
   rfl
theorem jeI : jab Tryz.prog 134 E_l02SubsBefore := jac mix jhB (lp := ja1) (LO := jaM) ⟨Tryz.func134, by kernel_rfl, by kernel_rfl⟩ (by kernel_rfl) fun ivs res bxs h => by
 unfold E_l02SubsBefore at h
 split at h
 ·rename_i p q
  obtain ⟨hc, he⟩ := pick1 h
  cases he
  rw [nqE] at hc
  obtain ⟨xs, rfl, hx⟩ := jak hc.1
  obtain ⟨ys, rfl, hy⟩ := jak hc.2
  refine ⟨jar 2 (by kernel_rfl) (by kernel_rfl) (by kernel_rfl) ?_, (jdx xs ys).trans ?_⟩
  ·intro ls e ls' hl
   unfold jaM at hl
   split at hl
   ·rename_i p q i
    cases hg : (isL p && isL q && (i == 0)) with
    | false => rw [hg] at hl; simp only [pickA, Bool.false_and, cond_false] at hl; cases hl
    | true =>
     rw [hg, Bool.true_and] at hl
     simp only [nqE, beq_iff_eq] at hg
     obtain ⟨us, rfl, hu⟩ := jak hg.1.1
     obtain ⟨vs, rfl, hv⟩ := jak hg.1.2
     obtain rfl := hg.2
     simp only [jad] at hl
     have := jdR us vs hu hv
     cases ha : jb1 us vs <;> rw [ha] at hl this <;> cases hl <;> exact this
   ·cases hl
  ·simp only [jai hx, jai hy, jad, beq_self_eq_true, Bool.and_true, Bool.true_and, jf5 xs ys]
   cases jb1 xs ys with
   | some r => rfl
   | none =>
    have : decide ((xs.length : Int) < (ys.length : Int)) = decide (xs.length < ys.length) := by rw [decide_eq_decide]; omega
    rw [this]
    rfl
 ·cases h
theorem jjt : ∀ xs ys : List ByteArray, xs.length = ys.length → foldS (fun (z : ByteArray × ByteArray) (_ : Unit) => if sEq z.1 z.2 = true then .inl () else .inr ((Ex.ret, [aB false]) : Ex × LS)) (fun _ => (.exit 0, [aX])) (xs.zip ys) () =
  if sameX xs ys = true then (.exit 0, [aX]) else (.ret, [aB false])
 | [], [], _ => by unfold sameX; rw [if_pos (jaj rfl)]; rfl
 | [], _ :: _, h => by cases h
 | _ :: _, [], h => by cases h
 | a :: x, b :: y, h => by
  rw [List.zip_cons_cons]
  unfold foldS
  dsimp only
  have ih := jjt x y (by simpa using h)
  unfold sameX at ih ⊢
  cases hs : sEq a b with
  | true =>
   rw [if_pos rfl]
   dsimp only
   rw [ih]
   obtain rfl := jbF.1 hs
   by_cases hxy : x = y
   ·rw [if_pos (jaj hxy), if_pos (jaj (by rw [hxy]))]
   ·rw [if_neg (fun e => hxy (jan e)), if_neg (fun e => hxy (by have := jan e; injection this))]
  | false =>
   rw [if_neg Bool.false_ne_true]
   rw [if_neg (fun e => jib.1 hs (by have := jan e; injection this))]
theorem jiq (xs ys : List ByteArray) (h : shL xs) (k : shL ys) (hlen : xs.length = ys.length) : LoopsTo (rdB brC Tryz.prog sab0 jb7 jbC Tryz.f177 4 []) [aP (pL xs), aP (pL ys), aI 0]
  (if sameX xs ys = true then (.exit 0, [aX]) else (.ret, [aB false])) := by
 have := jd7 (f := rdB brC Tryz.prog sab0 jb7 jbC Tryz.f177 4 []) (xs.zip ys) (fun i (_ : Unit) => [aP (pL xs), aP (pL ys), aI i])
  (fun z _ => if sEq z.1 z.2 = true then .inl () else .inr (.ret, [aB false])) (fun _ => (.exit 0, [aX])) (fun _ _ => True) ?_ ?_ (b := ()) trivial
 ·rw [jjt _ _ hlen] at this
  exact this
 ·intro i hi _ _
  have hl := h.1
  rw [List.length_zip] at hi
  have hix : i < xs.length := by omega
  have hiy : i < ys.length := by omega
  have tree := jem xs ys i
  simp (disch := omega) only [dT, nqF, jao xs i hix, jao ys i hiy, nqH, List.headD_cons, PV.isStr, PV.asStr, blt0, wrap1, Bool.and_true] at tree
  rw [List.getElem_zip]
  cases hb : sEq xs[i] ys[i] with
  | true =>
   have hb' : (ByteArray.toList xs[i] == ByteArray.toList ys[i]) = true := hb
   rw [hb'] at tree
   exact .inl ⟨(), rfl, trivial, tree⟩
  | false =>
   have hb' : (ByteArray.toList xs[i] == ByteArray.toList ys[i]) = false := hb
   rw [hb'] at tree
   exact .inr ⟨_, rfl, tree⟩
 ·intro _ _
  refine (jem xs ys (xs.zip ys).length).trans ?_
  rw [List.length_zip, ← hlen, Nat.min_self, dF (by omega)]
  rfl
theorem jnh : jab Tryz.prog 177 E_l02Same := jac mix jhB (lp := jb7) (LO := jbC) ⟨Tryz.func177, by kernel_rfl, by kernel_rfl⟩ (by kernel_rfl) fun ivs res bxs h => by
 unfold E_l02Same at h
 split at h
 ·rename_i p q
  obtain ⟨hc, he⟩ := pick1 h
  cases he
  rw [nqE] at hc
  obtain ⟨xs, rfl, hx⟩ := jak hc.1
  obtain ⟨ys, rfl, hy⟩ := jak hc.2
  refine ⟨jar 4 (by kernel_rfl) (by kernel_rfl) (by kernel_rfl) ?_, (jh6 xs ys).trans ?_⟩
  ·intro ls e ls' hl
   unfold jbC at hl
   split at hl
   ·rename_i p q i
    cases hg : (isL p && isL q && (i == 0)) with
    | false => rw [hg] at hl; simp only [pickA, Bool.false_and, cond_false] at hl; cases hl
    | true =>
     rw [hg, Bool.true_and] at hl
     simp only [nqE, beq_iff_eq] at hg
     obtain ⟨us, rfl, hu⟩ := jak hg.1.1
     obtain ⟨vs, rfl, hv⟩ := jak hg.1.2
     obtain rfl := hg.2
     simp only [jad] at hl
     cases hlen : Nat.beq us.length vs.length with
     | false => rw [hlen] at hl; simp only [pickA, Bool.false_and, cond_false] at hl; cases hl
     | true =>
      rw [hlen, Bool.true_and] at hl
      have := jiq us vs hu hv (nqB hlen)
      cases ha : sameX us vs <;> rw [ha] at hl this <;> cases hl <;> exact this
   ·cases hl
  ·simp only [jai hx, jai hy, jad, beq_self_eq_true, Bool.and_true, Bool.true_and]
   by_cases hlen : xs.length = ys.length
   ·have e1 : ((xs.length : Int) != (ys.length : Int)) = false := by simp [hlen]
    have e2 : Nat.beq xs.length ys.length = true := by rw [hlen]; exact Nat.beq_refl _
    rw [e1, e2]
    cases sameX xs ys <;> rfl
   ·have e1 : ((xs.length : Int) != (ys.length : Int)) = true := by simp; omega
    have e3 : sameX xs ys = false := by
     cases hs : sameX xs ys with
     | false => rfl
     | true => exact absurd (by rw [jan hs]) hlen
    rw [e1, e3]
    rfl
 ·cases h
theorem jfy : jaf Tryz.prog sab1 := ⟨jmX, jeI, jnh, jhB⟩
theorem jqs : jab Tryz.prog 116 E_l02Subs := jac mix jfy (lp := []) (LO := LO0) ⟨Tryz.func116, by kernel_rfl, by kernel_rfl⟩ (by kernel_rfl) fun ivs res bxs h => by
 unfold E_l02Subs at h
 split at h
 ·rename_i p
  obtain ⟨hc, he⟩ := pick1 h
  cases he
  obtain ⟨xs, rfl, hx⟩ := jak hc
  refine ⟨jam (by kernel_rfl), (jjU xs).trans ?_⟩
  simp only [jai hx, jad]
  rfl
 ·cases h
theorem jgn : jab Tryz.prog 85 E_l02Name := jac mix jfy (lp := []) (LO := LO0) ⟨Tryz.func85, by kernel_rfl, by kernel_rfl⟩ (by kernel_rfl) fun ivs res bxs h => by
 unfold E_l02Name at h
 split at h
 ·rename_i s
  obtain ⟨hc, he⟩ := pick1 h
  cases he
  refine ⟨jam (by kernel_rfl), (jkB s).trans ?_⟩
  rw [hc]
  rfl
 ·cases h
theorem jf8 : jab Tryz.prog 113 E_l02SubsBefore := jac mix jfy (lp := []) (LO := LO0) ⟨Tryz.func113, by kernel_rfl, by kernel_rfl⟩ (by kernel_rfl) fun ivs res bxs h => by
 unfold E_l02SubsBefore at h
 split at h
 ·rename_i p q
  obtain ⟨hc, he⟩ := pick1 h
  cases he
  rw [nqE] at hc
  obtain ⟨xs, rfl, hx⟩ := jak hc.1
  obtain ⟨ys, rfl, hy⟩ := jak hc.2
  refine ⟨jam (by kernel_rfl), (jfB xs ys).trans ?_⟩
  simp only [jai hx, jai hy, jad]
  rfl
 ·cases h
theorem jit : jab Tryz.prog 158 E_l02Same := jac mix jfy (lp := []) (LO := LO0) ⟨Tryz.func158, by kernel_rfl, by kernel_rfl⟩ (by kernel_rfl) fun ivs res bxs h => by
 unfold E_l02Same at h
 split at h
 ·rename_i p q
  obtain ⟨hc, he⟩ := pick1 h
  cases he
  rw [nqE] at hc
  obtain ⟨xs, rfl, hx⟩ := jak hc.1
  obtain ⟨ys, rfl, hy⟩ := jak hc.2
  refine ⟨jam (by kernel_rfl), (jg4 xs ys).trans ?_⟩
  simp only [jai hx, jai hy, jad]
  rfl
 ·cases h
theorem jkD : jaf Tryz.prog sab2 := ⟨jqs, jgn, jf8, jit, jfy⟩
theorem jkd : jab Tryz.prog 87 E_l03Place := jac mix jkD (lp := []) (LO := LO0) ⟨Tryz.func87, by kernel_rfl, by kernel_rfl⟩ (by kernel_rfl) fun ivs res bxs h => by
 unfold E_l03Place at h
 split at h
 ·rename_i s p
  obtain ⟨hc, he⟩ := pick1 h
  cases he
  rw [nqE] at hc
  obtain ⟨xs, rfl, hx⟩ := jak hc.2
  refine ⟨jam (by kernel_rfl), (jg8 s xs).trans ?_⟩
  simp only [jai hx, jad, hc.1]
  unfold jc5
  cases nameB s <;> rfl
 ·cases h
theorem jmv : jab Tryz.prog 84 E_l03Less := jac mix jkD (lp := []) (LO := LO0) ⟨Tryz.func84, by kernel_rfl, by kernel_rfl⟩ (by kernel_rfl) fun ivs res bxs h => by
 unfold E_l03Less at h
 split at h
 ·rename_i a p b q
  obtain ⟨hc, he⟩ := pick1 h
  cases he
  rw [nqE] at hc
  obtain ⟨xs, rfl, hx⟩ := jak hc.1
  obtain ⟨ys, rfl, hy⟩ := jak hc.2
  refine ⟨jam (by kernel_rfl), (jiG a xs b ys).trans ?_⟩
  simp only [jai hx, jai hy, jad]
  show brC (strLt a b) _ (brC (sEq a b) _ _) = some (cB (strLt a b || (sEq a b && _)), [])
  cases strLt a b <;> cases sEq a b <;> rfl
 ·cases h
theorem jnF : jaf Tryz.prog sab3 := ⟨jkd, jmv, jkD⟩
theorem jmK : jab Tryz.prog 83 E_l03Node := jac mix jnF (lp := []) (LO := LO0) ⟨Tryz.func83, by kernel_rfl, by kernel_rfl⟩ (by kernel_rfl) fun ivs res bxs h => by
 unfold E_l03Node at h
 split at h
 ·rename_i p
  obtain ⟨hc, he⟩ := pick1 h
  cases he
  obtain ⟨x, rfl, hx⟩ := jae hc
  refine ⟨jam (by kernel_rfl), (jiQ x).trans ?_⟩
  simp only [jai hx.2.1, jad, jbn, dT hx.1]
  unfold nodeB
  rw [show decide ((x.value.size : Int) ≤ 64) = decide (x.value.size ≤ 64) by rw [decide_eq_decide]; omega]
  cases jc5 x.name x.subs <;> rfl
 ·cases h
theorem jt2 : jaf Tryz.prog sab4 := ⟨jmK, jnF⟩
def prevT (t : List NodeT) (i : Nat) : Option NodeT := if i = 0 then none else t[i - 1]?
theorem jj4 (t : List NodeT) (h : shT t) : ∀ (m i : Nat), m + i = t.length → LoopsTo (rdB brC Tryz.prog sab4 jdL jcA Tryz.f45 4 []) [aBx 1 [.pv (pNs t)], aI i] (if jb2 (prevT t i) (t.drop i) = true then (.exit 0, [aX]) else (.ret, [aB false])) := by
 have hl := h.1
 intro m
 induction m with
 | zero =>
  intro i hm
  obtain rfl : i = t.length := by omega
  rw [List.drop_length]
  refine .done _ _ ((jfH t t.length).trans ?_)
  rw [dF (by omega)]
  rfl
 | succ m ih =>
  intro i hm
  have hi : i < t.length := by omega
  have hs := jdG h hi
  have ih' := ih (i + 1) (by omega)
  have hp1 : prevT t (i + 1) = some t[i] := by unfold prevT; rw [if_neg (by omega)]; simp [hi]
  rw [hp1] at ih'
  rw [nqK hi]
  unfold jb2
  have tree := jfH t i
  simp (disch := omega) only [dT, nqF, jaW t i hi, nqH, List.headD_cons, List.tail_cons, PV.isStr, PV.asStr, PV.isSl, PV.slN, PV.slL, ble3, wrap1, Bool.and_true, jey hs, jbn, jad, jai hs.2.1] at tree
  cases hn : nodeB t[i] with
  | false =>
   rw [hn] at tree
   simp only [Bool.false_and, if_neg Bool.false_ne_true]
   exact .done _ _ tree
  | true =>
   rw [hn] at tree
   by_cases h0 : i = 0
   ·subst h0
    have hp : prevT t 0 = none := rfl
    rw [hp]
    simp only [Bool.true_and]
    rw [dF (by omega)] at tree
    exact .step _ _ _ tree ih'
   ·have hj : i - 1 < t.length := by omega
    have hsj := jdG h hj
    have w1 : IntKind.wrap .i64 ((i : Int) - 1) = ((i - 1 : Nat) : Int) := by rw [wrapI (by omega) (by omega)]; omega
    have hp : prevT t i = some t[i - 1] := by unfold prevT; rw [if_neg h0]; simp [hj]
    rw [hp]
    simp (disch := omega) only [dT, w1, nqF, jaW t (i - 1) hj, List.drop_zero, List.drop_succ_cons, nqH, List.headD_cons, PV.isStr, PV.asStr, PV.isSl, PV.slN, PV.slL, blt0, Bool.and_true, jad, jai hsj.2.1] at tree
    dsimp only
    rcases Bool.eq_false_or_eq_true (jhZ t[i - 1] t[i]) with hlt | hlt
    ·have hlt' : locLt t[i - 1].name t[i - 1].subs t[i].name t[i].subs = true := hlt
     rw [hlt'] at tree
     simp only [hlt', Bool.true_and]
     exact .step _ _ _ tree ih'
    ·have hlt' : locLt t[i - 1].name t[i - 1].subs t[i].name t[i].subs = false := hlt
     rw [hlt'] at tree
     simp only [hlt', Bool.false_and, Bool.true_and, if_neg Bool.false_ne_true]
     exact .done _ _ tree
theorem jmb : jab Tryz.prog 45 E_TreeOk := jac mix jt2 (lp := jdL) (LO := jcA) ⟨Tryz.func45, by kernel_rfl, by kernel_rfl⟩ (by kernel_rfl) fun ivs res bxs h => by
 unfold E_TreeOk at h
 split at h
 ·rename_i p
  obtain ⟨hc, he⟩ := pick1 h
  cases he
  obtain ⟨t, rfl, ht⟩ := jae hc
  refine ⟨jar 4 (by kernel_rfl) (by kernel_rfl) (by kernel_rfl) ?_, (jkb t).trans ?_⟩
  ·intro ls e ls' hl
   unfold jcA at hl
   split at hl
   ·rename_i x p i
    cases hg : (isNs p && (i == 0) && Nat.beq x 4096) with
    | false => rw [hg] at hl; simp only [pickA, Bool.false_and, cond_false] at hl; cases hl
    | true =>
     rw [hg, Bool.true_and] at hl
     simp only [nqE, beq_iff_eq] at hg
     obtain ⟨u, rfl, hu⟩ := jae hg.1.1
     obtain rfl := hg.1.2
     rw [nqB hg.2]
     simp only [jas] at hl
     have := jj4 u hu u.length 0 (by omega)
     have e0 : prevT u 0 = none := rfl
     rw [e0, List.drop_zero] at this
     cases ha : jb2 none u <;> rw [ha] at hl this <;> cases hl <;> exact this
   ·cases hl
  ·simp only [jbe ht, jas, jbt, beq_self_eq_true, Bool.and_true, Bool.true_and, Nat.beq_refl]
   unfold treeB
   by_cases h4 : t.length ≤ 120
   ·rw [dF (show ¬ (t.length : Int) > 120 by omega), dT h4]
    cases jb2 none t <;> rfl
   ·rw [dT (show (t.length : Int) > 120 by omega), dF h4]
    rfl
 ·cases h
end
section
open Go.RowKit
abbrev lN (t : List NodeT) : CV := .lst 3 70 t.length (encN t) true
end
section
end
section
open Go.RowKit
end
section
open Go.RowKit
def pbb0 : List (FuncId × Entry) := (73, E_ITb) :: pab3
def jus (br : Br) (b : TblT) (cs : List ByteArray) := evB br Tryz.prog pbb0 [] LO0 Tryz.f97 [cP (pTb b), cP (pRw cs)]
def E_irow : Entry := fun ivs => match ivs with | [.cv (.pv p), .cv (.pv q)] => [(isTb p && isRw q && decide (1 ≤ (asTb p).cols.length), cB (rowB (asTb p) (asRw q)), [])] | _ => []
def pbb1 : List (FuncId × Entry) := (97, E_irow) :: pbb0
def jrz (br : Br) (b : TblT) (cs : List ByteArray) := evB br Tryz.prog pbb1 [] LO0 Tryz.f62 [cP (pTb b), cP (pRw cs)]
def E_iRowOk : Entry := fun ivs => match ivs with | [.cv (.pv p), .cv (.pv q)] => [(isTb p && isRw q, cB (tblB (asTb p) && rowB (asTb p) (asRw q)), [])] | _ => []
def E_Join : Entry := fun ivs => match ivs with | [.cv (.pv p), .cv (.pv (.str s))] => [(isL p && decide ((Lib.join ((asL p).map (·.data.toList)) s.data.toList).length ≤ 1048576), cS (bs (Lib.join ((asL p).map (·.data.toList)) s.data.toList)), [])] | _ => []
def pbb2 : List (FuncId × Entry) := (62, E_iRowOk) :: (127, E_Join) :: pbb1
def jrJ (br : Br) (cs : List ByteArray) := evB br Tryz.prog pbb2 [] LO0 Tryz.f99 [cP (pRw cs)]
def E_packed : Entry := fun ivs => match ivs with | [.cv (.pv q)] => [(isRw q && decide (1 ≤ (asRw q).length) && decide ((packL (asRw q)).length ≤ 1048576), cS (bs (packL (asRw q))), [])] | _ => []
end
section
def zzaj0 (b : TblT) (cs : List ByteArray) := (PV.agg [PV.str (TblT.name b), PV.str (TblT.glob b), PV.sl (List.length (TblT.cols b)) (List.map PV.str (TblT.cols b)), PV.sl (List.length (TblT.idxs b)) (List.map PV.str (TblT.idxs b))])
theorem jjx (b : TblT) (cs : List ByteArray) : jrz brC b cs =
 brC (isTb (zzaj0 b cs))
 (brC (tblB (asTb (zzaj0 b cs)))
 (brC (isTb (zzaj0 b cs) && isRw (PV.agg [PV.sl (List.length cs) (List.map PV.str cs)]) && decide (1 ≤ List.length (TblT.cols (asTb (zzaj0 b cs)))))
 (some ((.cv (.pv (.bool (rowB (asTb (zzaj0 b cs)) (asRw (PV.agg [PV.sl (List.length cs) (List.map PV.str cs)]))))), [])))
 none)
 (some ((.cv (.pv (.bool false)), []))))
 none := by kernel_rfl
theorem joL (b : TblT) (cs : List ByteArray) : jus brC b cs =
 brC ((↑(List.length cs) : Int) == (↑(List.length (TblT.cols b)) : Int))
 (brC (decide (0 ≤ 0) && decide (0 < (↑(List.length cs) : Int)))
 (brC (Nat.blt 0 (List.length (List.drop 0 (List.map PV.str cs))) && PV.isStr (List.headD (List.drop 0 (List.map PV.str cs)) PV.nilp) && true)
 (brC (!ByteArray.toList (PV.asStr (List.headD (List.drop 0 (List.map PV.str cs)) PV.nilp)) == [])
 (brC (isL (PV.sl (List.length cs) (List.map PV.str cs)) && Nat.beq 124 107)
 (some ((.cv (.pv (.bool !decide (jaH (asL (PV.sl (List.length cs) (List.map PV.str cs))) < List.length (asL (PV.sl (List.length cs) (List.map PV.str cs)))))), [])))
 (brC (isL (PV.sl (List.length cs) (List.map PV.str cs)) && Nat.beq 124 124)
 (some ((.cv (.pv (.bool !decide (jaI (asL (PV.sl (List.length cs) (List.map PV.str cs))) < List.length (asL (PV.sl (List.length cs) (List.map PV.str cs)))))), [])))
 none))
 (some ((.cv (.pv (.bool false)), []))))
 none)
 none)
 (some ((.cv (.pv (.bool false)), []))) := by kernel_rfl
theorem jj9 (cs : List ByteArray) : jrJ brC cs =
 brC (decide (0 ≤ 1) && decide (1 ≤ (↑(List.length cs) : Int)) && decide ((↑(List.length cs) : Int) ≤ (↑(List.length cs) : Int)) && true && true)
 (brC (isL (PV.sl (Int.toNat (↑(List.length cs) : Int) - 1) (List.take ((Int.toNat (↑(List.length cs) : Int) - 1) * 1) (List.drop (1 * 1) (List.map PV.str cs)))) && decide (List.length (Lib.join (List.map (fun x => Array.toList (ByteArray.data x)) (asL (PV.sl (Int.toNat (↑(List.length cs) : Int) - 1) (List.take ((Int.toNat (↑(List.length cs) : Int) - 1) * 1) (List.drop (1 * 1) (List.map PV.str cs)))))) [94]) ≤ 1048576))
 (some ((.cv (.pv (.str (bs (Lib.join (List.map (fun x => Array.toList (ByteArray.data x)) (asL (PV.sl (Int.toNat (↑(List.length cs) : Int) - 1) (List.take ((Int.toNat (↑(List.length cs) : Int) - 1) * 1) (List.drop (1 * 1) (List.map PV.str cs)))))) [94])))), [])))
 none)
 none := by kernel_rfl
end
section
open Go.RowKit
theorem jnL : jaf Tryz.prog pbb0 := ⟨ju4, jpM⟩
theorem jfR (s : ByteArray) : (ByteArray.toList s == ([] : List UInt8)) = s.data.toList.isEmpty := by
 rw [ByteArray.toList_eq]
 cases s.data.toList <;> rfl
theorem juf : jab Tryz.prog 97 E_irow := jac mix jnL (lp := []) (LO := LO0) ⟨Tryz.func97, by kernel_rfl, by kernel_rfl⟩ (by kernel_rfl) fun ivs res bxs h => by
 unfold E_irow at h
 split at h
 ·rename_i p q
  obtain ⟨hc, he⟩ := pick1 h
  cases he
  simp only [nqE, decide_eq_true_eq] at hc
  obtain ⟨⟨h1, h2⟩, h3⟩ := hc
  obtain ⟨b, rfl, hb⟩ := jay h1
  obtain ⟨cs, rfl, hs⟩ := jeS h2
  have e4 : asTb (pTb b) = b := jap b
  have e5 : asRw (pRw cs) = cs := jbZ cs
  rw [e4] at h3 ⊢
  rw [e5]
  refine ⟨jam (by kernel_rfl), (joL b cs).trans ?_⟩
  have f1 : isL (PV.sl cs.length (cs.map .str)) = true := jai hs
  have f2 : asL (PV.sl cs.length (cs.map .str)) = cs := jad cs
  have hB : decide (jaI cs < cs.length) = !cs.all cellB := jfZ (p := cellB) cs
  have hl : ((cs.length : Int) == (b.cols.length : Int)) = decide (cs.length = b.cols.length) := by
   by_cases h : cs.length = b.cols.length
   ·rw [h, beq_self_eq_true, decide_eq_true rfl]
   ·rw [decide_eq_false h]; simp; omega
  rw [hl, f1, f2, hB]
  unfold rowB
  by_cases hlen : cs.length = b.cols.length
  ·cases cs with
   | nil => rw [List.length_nil] at hlen; omega
   | cons c cs =>
    rw [dT hlen, dT (show (0 : Int) < ((c :: cs).length : Int) by rw [nqH]; omega)]
    show brC (true && true) (brC (true && true && true) (brC (!(c.toList == ([] : List UInt8))) _ _) none) _ = some (cB (true && !c.data.toList.isEmpty && _), [])
    rw [jfR]
    cases c.data.toList.isEmpty with
    | true => rfl
    | false =>
     cases (c :: cs).all cellB <;> rfl
  ·rw [dF hlen]
   rfl
 ·cases h
theorem jqo : jaf Tryz.prog pbb1 := ⟨juf, jnL⟩
theorem jpt {b : TblT} (h : tblB b = true) : 1 ≤ b.cols.length ∧ b.cols.length ≤ 5 := by
 unfold tblB at h
 simp only [nqE, decide_eq_true_eq] at h
 exact ⟨h.1.1.1.1.2, h.1.1.1.2⟩
theorem jim : jab Tryz.prog 62 E_iRowOk := jac mix jqo (lp := []) (LO := LO0) ⟨Tryz.func62, by kernel_rfl, by kernel_rfl⟩ (by kernel_rfl) fun ivs res bxs h => by
 unfold E_iRowOk at h
 split at h
 ·rename_i p q
  obtain ⟨hc, he⟩ := pick1 h
  cases he
  rw [nqE] at hc
  obtain ⟨b, rfl, hb⟩ := jay hc.1
  obtain ⟨cs, rfl, hs⟩ := jeS hc.2
  have e4 : asTb (pTb b) = b := jap b
  have e5 : asRw (pRw cs) = cs := jbZ cs
  rw [e4, e5]
  refine ⟨jam (by kernel_rfl), (jjx b cs).trans ?_⟩
  try delta zzaj0
  simp only [isTb, isRw, jbi hb, jt8 hs, jap, jbZ]
  cases hB : tblB b with
  | false => rfl
  | true =>
   rw [dT (jpt hB).1]
   rfl
 ·cases h
theorem jt1 : jab Tryz.prog 127 E_Join := ⟨⟨_, Tryz.func127, by kernel_rfl, by kernel_rfl⟩, fun ivs res bxs h => by
 unfold E_Join at h
 split at h
 ·rename_i p s
  obtain ⟨hc, he⟩ := pick1 h
  cases he
  rw [nqE, decide_eq_true_eq] at hc
  obtain ⟨xs, rfl, hx⟩ := jak hc.1
  have e4 : asL (pL xs) = xs := jad xs
  rw [e4] at hc ⊢
  have hl := hx.1
  refine jaF (ps := [pL xs, .str s]) (v := .string (bs (Lib.join (xs.map (·.data.toList)) s.data.toList))) rfl fun w com vals hv hfr hgl => ?_
  obtain ⟨v, vs, rfl, hv1, hn⟩ := hv.of_cons
  obtain ⟨v2, vs2, rfl, hv2, hn2⟩ := hn.of_cons
  rw [hn2.of_nil]
  cases hv2
  cases xs with
  | nil =>
   obtain ⟨a, c, rfl, _⟩ := hv1.row hfr
   refine (Tryz.strings_Join_none a c s w).mono ?_
   rintro e w' ⟨rfl, rfl⟩
   exact ⟨by simp [Lib.join]; rfl, Below.refl _ _⟩
  | cons y ys =>
   cases hv1 with
   | sl b off n cap cs l hnc hl' h1 hcm hm he =>
    obtain ⟨a, c, hac, hr⟩ := (PRep.sl b off _ cap cs _ hnc hl' h1 hcm hm he).row hfr
    cases hac
    obtain ⟨b', off', ha, hb, hcell⟩ := hr (by simp [jaq])
    cases ha
    have hj : ∀ (j : Nat) x, (y :: ys)[j]? = some x → w.cell? ⟨b, off + j, none⟩ = some (.string x) := fun j x hx' => by
     refine hcell j _ ?_
     unfold jaq
     rw [List.getElem?_map, hx']
     rfl
    refine (Tryz.strings_Join b off cap (y :: ys) s w hj hb (by omega) hnc (by omega)).mono ?_
    rintro e w' ⟨rfl, hb'⟩
    exact ⟨rfl, hb'⟩
 ·cases h⟩
theorem jtT : jaf Tryz.prog pbb2 := ⟨jim, jt1, jqo⟩
theorem joH : jab Tryz.prog 99 E_packed := jac mix jtT (lp := []) (LO := LO0) ⟨Tryz.func99, by kernel_rfl, by kernel_rfl⟩ (by kernel_rfl) fun ivs res bxs h => by
 unfold E_packed at h
 split at h
 ·rename_i q
  obtain ⟨hc, he⟩ := pick1 h
  cases he
  simp only [nqE, decide_eq_true_eq] at hc
  obtain ⟨⟨h1, h2⟩, h3⟩ := hc
  obtain ⟨cs, rfl, hs⟩ := jeS h1
  have e5 : asRw (pRw cs) = cs := jbZ cs
  rw [e5] at h2 h3 ⊢
  refine ⟨jam (by kernel_rfl), ?_⟩
  have tree := jj9 cs
  have z1 : PV.sl (Int.toNat (cs.length : Int) - 1) (List.take ((Int.toNat (cs.length : Int) - 1) * 1) (List.drop (1 * 1) (List.map PV.str cs))) = PV.sl (cs.drop 1).length ((cs.drop 1).map .str) := by
   rw [List.length_drop, nqF, Nat.mul_one, Nat.mul_one, ← List.map_drop, List.take_of_length_le (by rw [List.length_map, List.length_drop]; exact Nat.le_refl _)]
  have z2 : isL (PV.sl (cs.drop 1).length ((cs.drop 1).map .str)) = true := jai ⟨by rw [List.length_drop]; have := hs.1; omega, fun u hu => hs.2 u (List.mem_of_mem_drop hu)⟩
  have z3 : asL (PV.sl (cs.drop 1).length ((cs.drop 1).map .str)) = cs.drop 1 := jad _
  rw [z1, z2, z3] at tree
  have h3' : (Lib.join ((cs.drop 1).map (fun x => Array.toList (ByteArray.data x))) [94]).length ≤ 1048576 := h3
  simp (disch := omega) only [dT] at tree
  exact tree.trans rfl
 ·cases h
end
section
open Go.RowKit
def E_place : Entry := fun ivs => match ivs with | [.cv (.pv p), .cv (.pv (.str s))] => [(isL p, cI (posS (asL p) s), [])] | _ => []
abbrev jeO : List (Nat × List Nat × List Nat) := [(2, [0, 1, 5], [4])]
def jdQ : LoopT := fun _ ls => match ls with
 | [(.pv p, none), (.pv (.str s), none), (.pv (.int .i64 i), none)] => [(isL p && (i == 0) && decide (jav (asL p) s < (asL p).length), .ret, [aI (jav (asL p) s)]), (isL p && (i == 0), .exit 0, [aX])]
 | _ => []
def jte (br : Br) (xs : List ByteArray) (s : ByteArray) (i : Int) := rdB br Tryz.prog [] jeO jdQ Tryz.f60 2 [] [aP (pL xs), aS s, aI i]
def jtx (br : Br) (xs : List ByteArray) (s : ByteArray) := evB br Tryz.prog [] jeO jdQ Tryz.f60 [cP (pL xs), cS s]
def pdb0 : List (FuncId × Entry) := (85, E_l02Name) :: [(60, E_place)]
def colF (cols : List ByteArray) : Nat → Nat → Bool
 | 0, _ => true
 | m + 1, i => nameB (cols.getD i ⟨#[]⟩) && decide (posS (cols.take i) (cols.getD i ⟨#[]⟩) < 0) && colF cols m (i + 1)
abbrev jgL : List (Nat × List Nat × List Nat) := [(4, [1, 3], [1, 2]), (10, [1, 4, 5], [2])]
def jes : LoopT := fun k ls => bif Nat.beq k 4 then (match ls with
 | [(.ptr x 0, some (.box [.pv (.str s), .pv (.str g), .pv p, .pv q])), (.pv (.int .i64 i), none)] =>
  [(isL p && (i == 0) && Nat.beq x 4096 && !colF (asL p) (asL p).length 0, .ret, [aBx 1 [.pv (.str s), .pv (.str g), .pv p, .pv q], aB false]),
   (isL p && (i == 0) && Nat.beq x 4096, .exit 0, [aBx 1 [.pv (.str s), .pv (.str g), .pv p, .pv q], aX])]
 | _ => []) else (match ls with
 | [(.ptr x 0, some (.box [.pv (.str s), .pv (.str g), .pv p, .pv q])), (.pv (.int .i64 a), none), (.pv (.int .i64 i), none)] =>
  [(isL p && isL q && (a == 0) && (i == 0) && Nat.beq x 4096 && !idxB (asL p) (asL q) 0, .ret, [aB false]), (isL p && isL q && (a == 0) && (i == 0) && Nat.beq x 4096, .exit 2, [aX])]
 | _ => [])
def jvI (br : Br) (s g : ByteArray) (xs : List ByteArray) (q : PV) (i : Int) := rdB br Tryz.prog pdb0 jgL jes Tryz.f46 4 [] [aBx 1 [.pv (.str s), .pv (.str g), .pv (pL xs), .pv q], aI i]
def js2 (br : Br) (s g : ByteArray) (xs ys : List ByteArray) (a i : Int) := rdB br Tryz.prog pdb0 jgL jes Tryz.f46 10 [] [aBx 1 [.pv (.str s), .pv (.str g), .pv (pL xs), .pv (pL ys)], aI a, aI i]
def q_STb (br : Br) (b : TblT) := evB br Tryz.prog pdb0 jgL jes Tryz.f46 [cP (pTb b)]
def E_STb : Entry := fun ivs => match ivs with | [.cv (.pv p)] => [(isTb p, cB (tblB (asTb p)), [])] | _ => []
def pdb1 : List (FuncId × Entry) := (46, E_STb) :: [(93, E_icell)]
abbrev jhP : List (Nat × List Nat × List Nat) := [(4, [3, 5], [4])]
def jfK : LoopT := fun _ ls => match ls with
 | [(.ptr x 0, some (.box [.pv p])), (.pv (.int .i64 i), none)] => [(isL p && (i == 0) && Nat.beq x 12288 && !(asL p).all cellB, .ret, [aB false]), (isL p && (i == 0) && Nat.beq x 12288, .exit 0, [aX])]
 | _ => []
def jvn (br : Br) (cs : List ByteArray) (i : Int) := rdB br Tryz.prog pdb1 jhP jfK Tryz.f57 4 [] [aBx 3 [.pv (pL cs)], aI i]
def juE (br : Br) (b : TblT) (cs : List ByteArray) := evB br Tryz.prog pdb1 jhP jfK Tryz.f57 [cP (pTb b), cP (pRw cs)]
end
section
theorem jgA (xs : List ByteArray) (s : ByteArray) (i : Int) : jte brC xs s i =
 brC (decide (i < (↑(List.length xs) : Int)))
 (brC (decide (0 ≤ i) && decide (i < (↑(List.length xs) : Int)))
 (brC (Nat.blt 0 (List.length (List.drop (Int.toNat i * 1) (List.map PV.str xs))) && PV.isStr (List.headD (List.drop (Int.toNat i * 1) (List.map PV.str xs)) PV.nilp) && true)
 (brC (ByteArray.toList (PV.asStr (List.headD (List.drop (Int.toNat i * 1) (List.map PV.str xs)) PV.nilp)) == ByteArray.toList s)
 (some (.inr (.ret, [(.pv (.int .i64 i), none)])))
 (some (.inl [(.pv (.sl (List.length xs) (List.map PV.str xs)), none), (.pv (.str s), none), (.pv (.int .i64 (IntKind.wrap .i64 (i + 1))), none)])))
 none)
 none)
 (some (.inr (.exit 0, [(.bad, none)]))) := by kernel_rfl
theorem jgh (s : ByteArray) (g : ByteArray) (xs : List ByteArray) (ys : List ByteArray) (a : Int) (i : Int) : js2 brC s g xs ys a i =
 brC (decide (i < (↑(List.length ys) : Int)))
 (brC (decide (0 ≤ i) && decide (i < (↑(List.length ys) : Int)))
 (brC (Nat.blt 0 (List.length (List.drop (Int.toNat i * 1) (List.map PV.str ys))) && PV.isStr (List.headD (List.drop (Int.toNat i * 1) (List.map PV.str ys)) PV.nilp) && true)
 (brC (isL (PV.sl (List.length xs) (List.map PV.str xs)))
 (brC (decide (posS (asL (PV.sl (List.length xs) (List.map PV.str xs))) (PV.asStr (List.headD (List.drop (Int.toNat i * 1) (List.map PV.str ys)) PV.nilp)) ≤ a))
 (some (.inr (.ret, [(.pv (.bool false), none)])))
 (some (.inl [(.ptr 4096 0, some (.box [.pv (.str s), .pv (.str g), .pv (.sl (List.length xs) (List.map PV.str xs)), .pv (.sl (List.length ys) (List.map PV.str ys))])), (.pv (.int .i64 (posS (asL (PV.sl (List.length xs) (List.map PV.str xs))) (PV.asStr (List.headD (List.drop (Int.toNat i * 1) (List.map PV.str ys)) PV.nilp)))), none), (.pv (.int .i64 (IntKind.wrap .i64 (i + 1))), none)])))
 none)
 none)
 none)
 (some (.inr (.exit 2, [(.bad, none)]))) := by kernel_rfl
theorem jnZ (b : TblT) (cs : List ByteArray) : juE brC b cs =
 brC ((↑(List.length cs) : Int) != (↑(List.length (TblT.cols b)) : Int))
 (some ((.cv (.pv (.bool false)), [])))
 (brC (decide (0 ≤ 0) && decide (0 < (↑(List.length cs) : Int)))
 (brC (Nat.blt 0 (List.length (List.drop 0 (List.map PV.str cs))) && PV.isStr (List.headD (List.drop 0 (List.map PV.str cs)) PV.nilp) && true)
 (brC (ByteArray.toList (PV.asStr (List.headD (List.drop 0 (List.map PV.str cs)) PV.nilp)) == [])
 (some ((.cv (.pv (.bool false)), [])))
 (brC (isL (pL cs) && 0 == 0 && Nat.beq 12288 12288 && !List.all (asL (pL cs)) cellB)
 (some ((.cv (.pv (.bool false)), [])))
 (brC (isL (pL cs) && 0 == 0 && Nat.beq 12288 12288)
 (some ((.cv (.pv (.bool true)), [])))
 none)))
 none)
 none) := by kernel_rfl
theorem jq4 (b : TblT) : q_STb brC b =
 brC (decide (ByteArray.size (TblT.name b) ≤ 1048576))
 (brC (!nameB (TblT.name b))
 (some ((.cv (.pv (.bool false)), [])))
 (brC (decide (ByteArray.size (TblT.glob b) ≤ 1048576))
 (brC (!nameB (TblT.glob b))
 (some ((.cv (.pv (.bool false)), [])))
 (brC (decide ((↑(List.length (TblT.cols b)) : Int) < 1))
 (some ((.cv (.pv (.bool false)), [])))
 (brC (decide ((↑(List.length (TblT.cols b)) : Int) > 5))
 (some ((.cv (.pv (.bool false)), [])))
 (brC (decide ((↑(List.length (TblT.idxs b)) : Int) ≥ (↑(List.length (TblT.cols b)) : Int)))
 (some ((.cv (.pv (.bool false)), [])))
 (brC (isL (pL (TblT.cols b)) && 0 == 0 && Nat.beq 4096 4096 && !colF (asL (pL (TblT.cols b))) (List.length (asL (pL (TblT.cols b)))) 0)
 (some ((.cv (.pv (.bool false)), [])))
 (brC (isL (pL (TblT.cols b)) && 0 == 0 && Nat.beq 4096 4096)
 (brC (isL (pL (TblT.cols b)) && isL (pL (TblT.idxs b)) && 0 == 0 && 0 == 0 && Nat.beq 4096 4096 && !idxB (asL (pL (TblT.cols b))) (asL (pL (TblT.idxs b))) 0)
 (some ((.cv (.pv (.bool false)), [])))
 (brC (isL (pL (TblT.cols b)) && isL (pL (TblT.idxs b)) && 0 == 0 && 0 == 0 && Nat.beq 4096 4096)
 (some ((.cv (.pv (.bool true)), [])))
 none))
 none))))))
 none))
 none := by kernel_rfl
theorem jnf (xs : List ByteArray) (s : ByteArray) : jtx brC xs s =
 brC (isL (pL xs) && 0 == 0 && decide (jav (asL (pL xs)) s < List.length (asL (pL xs))))
 (some ((.cv (.pv (.int .i64 (↑(jav (asL (pL xs)) s) : Int))), [])))
 (brC (isL (pL xs) && 0 == 0)
 (some ((.cv (.pv (.int .i64 (Int.negSucc 0))), [])))
 none) := by kernel_rfl
theorem jh7 (cs : List ByteArray) (i : Int) : jvn brC cs i =
 brC (decide (i < (↑(List.length cs) : Int)))
 (brC (decide (0 ≤ i) && decide (i < (↑(List.length cs) : Int)))
 (brC (Nat.blt 0 (List.length (List.drop (Int.toNat i * 1) (List.map PV.str cs))) && PV.isStr (List.headD (List.drop (Int.toNat i * 1) (List.map PV.str cs)) PV.nilp) && true)
 (brC (decide (ByteArray.size (PV.asStr (List.headD (List.drop (Int.toNat i * 1) (List.map PV.str cs)) PV.nilp)) ≤ 1048576))
 (brC (!cellB (PV.asStr (List.headD (List.drop (Int.toNat i * 1) (List.map PV.str cs)) PV.nilp)))
 (some (.inr (.ret, [(.pv (.bool false), none)])))
 (some (.inl [(.ptr 12288 0, some (.box [.pv (.sl (List.length cs) (List.map PV.str cs))])), (.pv (.int .i64 (IntKind.wrap .i64 (i + 1))), none)])))
 none)
 none)
 none)
 (some (.inr (.exit 0, [(.bad, none)]))) := by kernel_rfl
theorem jh0 (s : ByteArray) (g : ByteArray) (xs : List ByteArray) (q : PV) (i : Int) : jvI brC s g xs q i =
 brC (decide (i < (↑(List.length xs) : Int)))
 (brC (decide (0 ≤ i) && decide (i < (↑(List.length xs) : Int)))
 (brC (Nat.blt 0 (List.length (List.drop (Int.toNat i * 1) (List.map PV.str xs))) && PV.isStr (List.headD (List.drop (Int.toNat i * 1) (List.map PV.str xs)) PV.nilp) && true)
 (brC (decide (ByteArray.size (PV.asStr (List.headD (List.drop (Int.toNat i * 1) (List.map PV.str xs)) PV.nilp)) ≤ 1048576))
 (brC (!nameB (PV.asStr (List.headD (List.drop (Int.toNat i * 1) (List.map PV.str xs)) PV.nilp)))
 (some (.inr (.ret, [(.ptr 4096 0, some (.box [.pv (.str s), .pv (.str g), .pv (.sl (List.length xs) (List.map PV.str xs)), .pv q])), (.pv (.bool false), none)])))
 (brC (decide (0 ≤ 0) && decide (0 ≤ i) && decide (i ≤ (↑(List.length xs) : Int)) && true && true)
 (brC (decide (0 ≤ i) && decide (i < (↑(List.length xs) : Int)))
 (brC (Nat.blt 0 (List.length (List.drop (Int.toNat i * 1) (List.map PV.str xs))) && PV.isStr (List.headD (List.drop (Int.toNat i * 1) (List.map PV.str xs)) PV.nilp) && true)
 (brC (isL (PV.sl (Int.toNat i - 0) (List.take ((Int.toNat i - 0) * 1) (List.drop (0 * 1) (List.map PV.str xs)))))
 (brC (decide (posS (asL (PV.sl (Int.toNat i - 0) (List.take ((Int.toNat i - 0) * 1) (List.drop (0 * 1) (List.map PV.str xs))))) (PV.asStr (List.headD (List.drop (Int.toNat i * 1) (List.map PV.str xs)) PV.nilp)) ≥ 0))
 (some (.inr (.ret, [(.ptr 4096 0, some (.box [.pv (.str s), .pv (.str g), .pv (.sl (List.length xs) (List.map PV.str xs)), .pv q])), (.pv (.bool false), none)])))
 (some (.inl [(.ptr 4096 0, some (.box [.pv (.str s), .pv (.str g), .pv (.sl (List.length xs) (List.map PV.str xs)), .pv q])), (.pv (.int .i64 (IntKind.wrap .i64 (i + 1))), none)])))
 none)
 none)
 none)
 none))
 none)
 none)
 none)
 (some (.inr (.exit 0, [(.ptr 4096 0, some (.box [.pv (.str s), .pv (.str g), .pv (.sl (List.length xs) (List.map PV.str xs)), .pv q])), (.bad, none)]))) := by kernel_rfl
end
section
open Go.RowKit
theorem jl3 (xs : List ByteArray) (hx : shL xs) (s : ByteArray) : ∀ (m i : Nat), m + i = xs.length → LoopsTo (rdB brC Tryz.prog [] jeO jdQ Tryz.f60 2 []) [aP (pL xs), aS s, aI i]
  (if jav (xs.drop i) s + i < xs.length then (.ret, [aI ((jav (xs.drop i) s + i : Nat) : Int)]) else (.exit 0, [aX])) := by
 have hl := hx.1
 intro m
 induction m with
 | zero =>
  intro i hm
  obtain rfl : i = xs.length := by omega
  rw [List.drop_length, show jav [] s = 0 from rfl, if_neg (by omega)]
  refine .done _ _ ((jgA xs s xs.length).trans ?_)
  rw [dF (by omega)]
  rfl
 | succ m ih =>
  intro i hm
  have hi : i < xs.length := by omega
  have ih' := ih (i + 1) (by omega)
  have tree := jgA xs s i
  simp (disch := omega) only [dT, nqF, jao xs i hi, nqH, List.headD_cons, PV.isStr, PV.asStr, blt0, wrap1, Bool.and_true, Bool.true_and] at tree
  rw [nqK hi]
  have hs : (xs[i].toList == s.toList) = sEq s xs[i] := by
   unfold sEq
   rw [Bool.eq_iff_iff, beq_iff_eq, beq_iff_eq]
   exact eq_comm
  rw [hs] at tree
  cases hin : sEq s xs[i] with
  | true =>
   rw [hin] at tree
   rw [show jav (xs[i] :: xs.drop (i + 1)) s = 0 from jfj (p := fun x => sEq s x) hin, Nat.zero_add, if_pos hi]
   exact .done _ _ tree
  | false =>
   rw [hin] at tree
   rw [show jav (xs[i] :: xs.drop (i + 1)) s = jav (xs.drop (i + 1)) s + 1 from jdl (p := fun x => sEq s x) hin]
   have e : jav (xs.drop (i + 1)) s + (i + 1) = jav (xs.drop (i + 1)) s + 1 + i := by omega
   rw [e] at ih'
   exact .step _ _ _ tree ih'
theorem jlM : jab Tryz.prog 60 E_place := jac mix (tab := []) trivial (lp := jeO) (LO := jdQ) ⟨Tryz.func60, by kernel_rfl, by kernel_rfl⟩ (by kernel_rfl) fun ivs res bxs h => by
 unfold E_place at h
 split at h
 ·rename_i p s
  obtain ⟨hc, he⟩ := pick1 h
  cases he
  obtain ⟨xs, rfl, hx⟩ := jak hc
  refine ⟨jar 2 (by kernel_rfl) (by kernel_rfl) (by kernel_rfl) ?_, (jnf xs s).trans ?_⟩
  ·intro ls e ls' hl
   unfold jdQ at hl
   split at hl
   ·rename_i p s i
    cases hg : (isL p && (i == 0)) with
    | false => rw [hg] at hl; simp only [pickA, Bool.false_and, cond_false] at hl; cases hl
    | true =>
     rw [hg, Bool.true_and] at hl
     simp only [nqE, beq_iff_eq] at hg
     obtain ⟨g1, g2⟩ := hg
     obtain ⟨ys, rfl, hy⟩ := jak g1
     simp only [jad] at hl
     rw [g2]
     have := jl3 ys hy s ys.length 0 (by omega)
     rw [List.drop_zero, Nat.add_zero] at this
     by_cases hlt : jav ys s < ys.length
     ·rw [dT hlt] at hl
      rw [if_pos hlt] at this
      cases hl
      exact this
     ·rw [dF hlt] at hl
      rw [if_neg hlt] at this
      cases hl
      exact this
   ·cases hl
  ·have e4 : asL (pL xs) = xs := jad xs
   have e5 : isL (pL xs) = true := jai hx
   rw [e4, e5]
   unfold posS
   by_cases hlt : jav xs s < xs.length
   ·rw [dT hlt, if_pos hlt]
    rfl
   ·rw [dF hlt, if_neg hlt]
    rfl
 ·cases h
theorem jtd : jaf Tryz.prog pdb0 := ⟨jgn, jlM, trivial⟩
theorem jrr (xs : List ByteArray) (s : ByteArray) : posS xs s < 0 ↔ s ∉ xs := by
 have h := jfZ (p := fun x => !sEq s x) xs
 simp only [Bool.not_not] at h
 unfold posS jav
 by_cases hm : s ∈ xs
 ·have : (xs.all fun x => !sEq s x) = false := by
   rw [List.all_eq_false]
   exact ⟨s, hm, by rw [jkY]; decide⟩
  rw [this] at h
  rw [if_pos (nqI h)]
  exact ⟨fun g => by omega, fun g => absurd hm g⟩
 ·have : (xs.all fun x => !sEq s x) = true := by
   rw [List.all_eq_true]
   intro x hx
   cases hs : sEq s x with
   | false => rfl
   | true => exact absurd (jbF.1 hs ▸ hx) hm
  rw [this] at h
  rw [if_neg (of_decide_eq_false h)]
  exact ⟨fun _ => hm, fun _ => by omega⟩
theorem jla : ∀ (r pre : List ByteArray), pre.Nodup → (colF (pre ++ r) r.length pre.length = true ↔ (r.all nameB = true ∧ (pre ++ r).Nodup))
 | [], pre, h => by
  rw [List.append_nil]
  exact ⟨fun _ => ⟨rfl, h⟩, fun _ => rfl⟩
 | x :: r, pre, h => by
  rw [nqH]
  unfold colF
  have e1 : (pre ++ x :: r).getD pre.length ⟨#[]⟩ = x := by simp
  have e2 : (pre ++ x :: r).take pre.length = pre := List.take_left
  rw [e1, e2, nqE, nqE, decide_eq_true_eq, jrr, List.all_cons, nqE]
  by_cases hm : x ∈ pre
  ·constructor
   ·intro g
    exact absurd hm g.1.2
   ·intro g
    exact absurd rfl ((List.nodup_append.1 g.2).2.2 x hm x (by simp))
  ·have hp : (pre ++ [x]).Nodup := List.nodup_append.2 ⟨h, by simp, fun a ha b hb => by rw [List.mem_singleton.1 hb]; exact fun e => hm (e ▸ ha)⟩
   have ih := jla r (pre ++ [x]) hp
   rw [List.append_assoc, List.singleton_append, nqG, List.length_singleton] at ih
   rw [ih]
   exact ⟨fun g => ⟨⟨g.1.1, g.2.1⟩, g.2.2⟩, fun g => ⟨⟨g.1.1, hm⟩, g.1.2, g.2⟩⟩
theorem js7 (cols : List ByteArray) : colF cols cols.length 0 = (jcG cols && cols.all nameB) := by
 have h := jla cols [] List.nodup_nil
 rw [List.nil_append, List.length_nil] at h
 have hd : jcG cols = true ↔ cols.Nodup := @decide_eq_true_iff cols.Nodup (Classical.propDecidable _)
 rw [Bool.eq_iff_iff, h, nqE, hd]
 exact ⟨fun g => ⟨g.2, g.1⟩, fun g => ⟨g.2, g.1⟩⟩
theorem jp1 (s g : ByteArray) (xs : List ByteArray) (q : PV) (hx : shL xs) : ∀ (m i : Nat), m + i = xs.length → LoopsTo (rdB brC Tryz.prog pdb0 jgL jes Tryz.f46 4 []) [aBx 1 [.pv (.str s), .pv (.str g), .pv (pL xs), .pv q], aI i]
  (if colF xs m i = true then (.exit 0, [aBx 1 [.pv (.str s), .pv (.str g), .pv (pL xs), .pv q], aX]) else (.ret, [aBx 1 [.pv (.str s), .pv (.str g), .pv (pL xs), .pv q], aB false])) := by
 have hl := hx.1
 intro m
 induction m with
 | zero =>
  intro i hm
  obtain rfl : i = xs.length := by omega
  refine .done _ _ ((jh0 s g xs q xs.length).trans ?_)
  rw [dF (by omega)]
  rfl
 | succ m ih =>
  intro i hm
  have hi : i < xs.length := by omega
  have ih' := ih (i + 1) (by omega)
  have tree := jh0 s g xs q i
  have z1 : PV.sl (Int.toNat (i : Int) - 0) (List.take ((Int.toNat (i : Int) - 0) * 1) (List.drop (0 * 1) (List.map PV.str xs))) = PV.sl (xs.take i).length ((xs.take i).map .str) := by
   rw [nqF, Nat.sub_zero, Nat.mul_one, Nat.zero_mul, List.drop_zero, List.length_take, Nat.min_eq_left (by omega), List.map_take]
  have z2 : isL (PV.sl (xs.take i).length ((xs.take i).map .str)) = true := jai ⟨by rw [List.length_take]; omega, fun u hu => hx.2 u (List.mem_of_mem_take hu)⟩
  have z3 : asL (PV.sl (xs.take i).length ((xs.take i).map .str)) = xs.take i := jad _
  have hsz := hx.2 xs[i] (List.getElem_mem hi)
  rw [z1, z2, z3] at tree
  simp (disch := omega) only [dT, nqF, jao xs i hi, nqH, List.headD_cons, PV.isStr, PV.asStr, blt0, wrap1, Bool.and_true, Bool.true_and] at tree
  unfold colF
  have e1 : xs.getD i ⟨#[]⟩ = xs[i] := by simp [hi]
  rw [e1]
  cases hn : nameB xs[i] with
  | false =>
   rw [hn] at tree
   rw [Bool.false_and, Bool.false_and, if_neg Bool.false_ne_true]
   exact .done _ _ tree
  | true =>
   rw [hn] at tree
   rw [Bool.true_and]
   by_cases hp : posS (xs.take i) xs[i] < 0
   ·rw [dF (show ¬ posS (xs.take i) xs[i] ≥ 0 by omega)] at tree
    rw [dT hp, Bool.true_and]
    exact .step _ _ _ tree ih'
   ·rw [dT (show posS (xs.take i) xs[i] ≥ 0 by omega)] at tree
    rw [dF hp, Bool.false_and, if_neg Bool.false_ne_true]
    exact .done _ _ tree
theorem jma (s g : ByteArray) (xs zs : List ByteArray) (hx : shL xs) (hz : shL zs) : ∀ (m i : Nat) (a : Int), m + i = zs.length → LoopsTo (rdB brC Tryz.prog pdb0 jgL jes Tryz.f46 10 []) [aBx 1 [.pv (.str s), .pv (.str g), .pv (pL xs), .pv (pL zs)], aI a, aI i]
  (if idxB xs (zs.drop i) a = true then (.exit 2, [aX]) else (.ret, [aB false])) := by
 have hl := hz.1
 intro m
 induction m with
 | zero =>
  intro i a hm
  obtain rfl : i = zs.length := by omega
  rw [List.drop_length]
  refine .done _ _ ((jgh s g xs zs a zs.length).trans ?_)
  rw [dF (by omega)]
  rfl
 | succ m ih =>
  intro i a hm
  have hi : i < zs.length := by omega
  have ih' := ih (i + 1) (posS xs zs[i]) (by omega)
  have tree := jgh s g xs zs a i
  have e1 : isL (PV.sl xs.length (xs.map .str)) = true := jai hx
  have e2 : asL (PV.sl xs.length (xs.map .str)) = xs := jad xs
  simp (disch := omega) only [show decide ((i : Int) < (zs.length : Int)) = true from dT (by omega), show decide (0 ≤ (i : Int)) = true from dT (by omega), nqF, jao zs i hi, nqH, List.headD_cons, PV.isStr, PV.asStr, blt0, wrap1, Bool.and_true, Bool.true_and, e1, e2] at tree
  rw [nqK hi]
  show LoopsTo _ _ (if (decide (a < posS xs zs[i]) && idxB xs (zs.drop (i + 1)) (posS xs zs[i])) = true then _ else _)
  by_cases hp : posS xs zs[i] ≤ a
  ·rw [dT hp] at tree
   rw [dF (show ¬ a < posS xs zs[i] by omega), Bool.false_and, if_neg Bool.false_ne_true]
   exact .done _ _ tree
  ·rw [dF hp] at tree
   rw [dT (show a < posS xs zs[i] by omega), Bool.true_and]
   exact .step _ _ _ tree ih'
theorem jsc : jab Tryz.prog 46 E_STb := jac mix jtd (lp := jgL) (LO := jes) ⟨Tryz.func46, by kernel_rfl, by kernel_rfl⟩ (by kernel_rfl) fun ivs res bxs h => by
 unfold E_STb at h
 split at h
 ·rename_i p
  obtain ⟨hc, he⟩ := pick1 h
  cases he
  obtain ⟨b, rfl, hb⟩ := jay hc
  obtain ⟨b1, b2, b3, b4⟩ := hb
  have e4 : asTb (pTb b) = b := jap b
  rw [e4]
  refine ⟨jn9 [4, 10] (by kernel_rfl) (fun k hk => ?_) (fun k hk => ?_), (jq4 b).trans ?_⟩
  ·rcases List.mem_cons.1 hk with rfl | hk
   ·kernel_rfl
   ·rw [List.mem_singleton.1 hk]; kernel_rfl
  ·rcases List.mem_cons.1 hk with rfl | hk
   ·refine ⟨jam (by kernel_rfl), fun ls e ls' hl => ?_⟩
    unfold jes at hl
    rw [Nat.beq_refl, cond_true] at hl
    split at hl
    ·rename_i x s g p q i
     cases hg : (isL p && (i == 0) && Nat.beq x 4096) with
     | false => rw [hg] at hl; simp only [pickA, Bool.false_and, cond_false] at hl; cases hl
     | true =>
      rw [hg, Bool.true_and] at hl
      simp only [nqE, beq_iff_eq] at hg
      obtain ⟨⟨g1, g2⟩, g3⟩ := hg
      obtain ⟨xs, rfl, hx⟩ := jak g1
      have e1 : asL (pL xs) = xs := jad xs
      rw [e1] at hl
      have := jp1 s g xs q hx xs.length 0 (by omega)
      rw [g2, nqB g3]
      cases hB : colF xs xs.length 0 with
      | true => rw [hB] at hl this; cases hl; exact this
      | false => rw [hB] at hl this; cases hl; exact this
    ·cases hl
   ·rw [List.mem_singleton.1 hk]
    refine ⟨jam (by kernel_rfl), fun ls e ls' hl => ?_⟩
    unfold jes at hl
    rw [show Nat.beq 10 4 = false from rfl, cond_false] at hl
    split at hl
    ·rename_i x s g p q a i
     cases hg : (isL p && isL q && (a == 0) && (i == 0) && Nat.beq x 4096) with
     | false => rw [hg] at hl; simp only [pickA, Bool.false_and, cond_false] at hl; cases hl
     | true =>
      rw [hg, Bool.true_and] at hl
      simp only [nqE, beq_iff_eq] at hg
      obtain ⟨⟨⟨⟨g1, g2⟩, g4⟩, g5⟩, g6⟩ := hg
      obtain ⟨xs, rfl, hx⟩ := jak g1
      obtain ⟨zs, rfl, hz⟩ := jak g2
      have e1 : asL (pL xs) = xs := jad xs
      have e2 : asL (pL zs) = zs := jad zs
      rw [e1, e2] at hl
      have := jma s g xs zs hx hz zs.length 0 0 (by omega)
      rw [List.drop_zero] at this
      rw [g4, g5, nqB g6]
      cases hB : idxB xs zs 0 with
      | true => rw [hB] at hl this; cases hl; exact this
      | false => rw [hB] at hl this; cases hl; exact this
    ·cases hl
  ·have e3 : isL (pL b.idxs) = true := jai b4
   have e5 : asL (pL b.idxs) = b.idxs := jad b.idxs
   have e6 : isL (pL b.cols) = true := jai b3
   have e7 : asL (pL b.cols) = b.cols := jad b.cols
   simp only [e3, e5, e6, e7, dT b1, dT b2, js7, beq_self_eq_true, Bool.and_true, Bool.true_and, Nat.beq_refl]
   have l1 : decide ((b.cols.length : Int) < 1) = !decide (1 ≤ b.cols.length) := by
    by_cases h : 1 ≤ b.cols.length
    ·rw [dT h, dF (by omega)]; rfl
    ·rw [dF h, dT (by omega)]; rfl
   have l2 : decide ((b.cols.length : Int) > 5) = !decide (b.cols.length ≤ 5) := by
    by_cases h : b.cols.length ≤ 5
    ·rw [dT h, dF (by omega)]; rfl
    ·rw [dF h, dT (by omega)]; rfl
   rw [l1, l2]
   unfold tblB
   by_cases h1 : 1 ≤ b.cols.length
   ·rw [dT h1]
    by_cases h2 : (b.idxs.length : Int) ≥ (b.cols.length : Int)
    ·have h3 : idxB b.cols b.idxs 0 = false := by
      cases hB : idxB b.cols b.idxs 0 with
      | false => rfl
      | true =>
       have := jgS b.cols b.idxs 0 hB (by omega)
       omega
     rw [dT h2, h3]
     cases nameB b.name <;> cases nameB b.glob <;> cases decide (b.cols.length ≤ 5) <;> cases jcG b.cols <;> cases b.cols.all nameB <;> rfl
    ·rw [dF h2]
     cases nameB b.name <;> cases nameB b.glob <;> cases decide (b.cols.length ≤ 5) <;> cases jcG b.cols <;> cases b.cols.all nameB <;> cases idxB b.cols b.idxs 0 <;> rfl
   ·rw [dF h1]
    cases nameB b.name <;> cases nameB b.glob <;> rfl
 ·cases h
theorem jmy : jab Tryz.prog 93 E_icell := ⟨⟨_, Tryz.func93, by kernel_rfl, by kernel_rfl⟩, fun ivs res bxs h => by
 unfold E_icell at h
 split at h
 ·rename_i s
  obtain ⟨hc, he⟩ := pick1 h
  cases he
  have hc := nqI hc
  refine jaF (ps := [.str s]) (v := .bool (cellB s)) rfl fun w com vals hv _ hgl => ?_
  obtain ⟨v, vs, rfl, hv1, hn⟩ := hv.of_cons
  rw [hn.of_nil]
  cases hv1
  refine (jkg s w (by omega)).mono ?_
  rintro e w' ⟨rfl, rfl⟩
  exact ⟨rfl, Below.refl _ _⟩
 ·cases h⟩
theorem jsx : jaf Tryz.prog pdb1 := ⟨jsc, jmy, trivial⟩
theorem jo3 (cs : List ByteArray) (hs : shL cs) : ∀ (m i : Nat), m + i = cs.length → LoopsTo (rdB brC Tryz.prog pdb1 jhP jfK Tryz.f57 4 []) [aBx 3 [.pv (pL cs)], aI i]
  (if (cs.drop i).all cellB = true then (.exit 0, [aX]) else (.ret, [aB false])) := by
 have hl := hs.1
 intro m
 induction m with
 | zero =>
  intro i hm
  obtain rfl : i = cs.length := by omega
  rw [List.drop_length]
  refine .done _ _ ((jh7 cs cs.length).trans ?_)
  rw [dF (by omega)]
  rfl
 | succ m ih =>
  intro i hm
  have hi : i < cs.length := by omega
  have ih' := ih (i + 1) (by omega)
  have tree := jh7 cs i
  have hsz := hs.2 cs[i] (List.getElem_mem hi)
  simp (disch := omega) only [dT, nqF, jao cs i hi, nqH, List.headD_cons, PV.isStr, PV.asStr, blt0, wrap1, Bool.and_true, Bool.true_and] at tree
  rw [nqK hi, List.all_cons]
  cases hc : cellB cs[i] with
  | false =>
   rw [hc] at tree
   rw [Bool.false_and, if_neg Bool.false_ne_true]
   exact .done _ _ tree
  | true =>
   rw [hc] at tree
   rw [Bool.true_and]
   exact .step _ _ _ tree ih'
theorem jsW : jab Tryz.prog 57 E_irow := jac mix jsx (lp := jhP) (LO := jfK) ⟨Tryz.func57, by kernel_rfl, by kernel_rfl⟩ (by kernel_rfl) fun ivs res bxs h => by
 unfold E_irow at h
 split at h
 ·rename_i p q
  obtain ⟨hc, he⟩ := pick1 h
  cases he
  simp only [nqE, decide_eq_true_eq] at hc
  obtain ⟨⟨h1, h2⟩, h3⟩ := hc
  obtain ⟨b, rfl, hb⟩ := jay h1
  obtain ⟨cs, rfl, hs⟩ := jeS h2
  have e4 : asTb (pTb b) = b := jap b
  have e5 : asRw (pRw cs) = cs := jbZ cs
  rw [e4] at h3 ⊢
  rw [e5]
  refine ⟨jar 4 (by kernel_rfl) (by kernel_rfl) (by kernel_rfl) ?_, (jnZ b cs).trans ?_⟩
  ·intro ls e ls' hl
   unfold jfK at hl
   split at hl
   ·rename_i x p i
    cases hg : (isL p && (i == 0) && Nat.beq x 12288) with
    | false => rw [hg] at hl; simp only [pickA, Bool.false_and, cond_false] at hl; cases hl
    | true =>
     rw [hg, Bool.true_and] at hl
     simp only [nqE, beq_iff_eq] at hg
     obtain ⟨⟨g1, g2⟩, g3⟩ := hg
     obtain ⟨ys, rfl, hy⟩ := jak g1
     have e1 : asL (pL ys) = ys := jad ys
     rw [e1] at hl
     have := jo3 ys hy ys.length 0 (by omega)
     rw [List.drop_zero] at this
     rw [g2, nqB g3]
     cases hB : ys.all cellB with
     | true => rw [hB] at hl this; cases hl; exact this
     | false => rw [hB] at hl this; cases hl; exact this
   ·cases hl
  ·have f1 : isL (pL cs) = true := jai hs
   have f2 : asL (pL cs) = cs := jad cs
   have hlb : ((cs.length : Int) != (b.cols.length : Int)) = !decide (cs.length = b.cols.length) := by
    by_cases h : cs.length = b.cols.length
    ·rw [h, dT rfl]; simp
    ·rw [dF h]; simp; omega
   rw [hlb, f1, f2]
   unfold rowB
   by_cases hlen : cs.length = b.cols.length
   ·cases cs with
    | nil => rw [List.length_nil] at hlen; omega
    | cons c cs =>
     rw [dT hlen, dT (show (0 : Int) < ((c :: cs).length : Int) by rw [nqH]; omega)]
     show brC (!true) _ (brC (true && true) (brC (true && true && true) (brC (c.toList == ([] : List UInt8)) _ _) none) none) = some (cB (true && !c.data.toList.isEmpty && _), [])
     rw [jfR]
     cases c.data.toList.isEmpty with
     | true => rfl
     | false =>
      cases (c :: cs).all cellB <;> rfl
   ·rw [dF hlen]
    rfl
 ·cases h
end
end
end Go.Proofs.YtbeebeamdjbkmaaGreatDoor
