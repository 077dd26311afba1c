/- slices.Grow at texts, from nothing: the kit's contract, laid by hand.
Merging, by the reckoner: what is stated.
Trees (printed by vx/trees.sh; numbers of one seat).
Merging, by the reckoner: proofs.
The law of merging, by the reckoner: what is stated.
Trees (printed by vx/trees.sh; numbers of one seat).
The law of merging, by the reckoner: proofs.
A law's arguments and the package variables, opened for the reckoner.
The walk of the law FnMerge, by the reckoner. -/
import Derived.Test.YtbknfkdjhajimaaGreatDoorZE
import Derived.Test.YtbknfkdjhajimaaGreatDoorZL
import Derived.Shelf.Spec.SlicesGrow
import Derived.Test.YtbknfkdjhajimaaGreatDoorVx3
import Derived.Test.YtbknfkdjhajimaaGreatDoorZA
import Derived.ChangeSlices
import Derived.WideShapes
import Derived.OpenShut
namespace Go.Proofs.YtbknfkdjhajimaaGreatDoor
section
open Go.RowKit Go.Shelf
set_option linter.unusedVariables false

def growS_ren : Go.Shelf.Ren := ⟨fun | 4 => 102 | n => n, fun | 22 => 27 | 25 => 9 | n => n, fun n => n⟩
theorem growS : Lays8.n4 Tryz.prog growS_ren := {
  mixed := by kernel_rfl
  f4 := ⟨"slices.Grow[[]string,string]", by kernel_rfl, Tryz.func102.trans (congrArg some (by kernel_rfl))⟩
  t0 := Tryz.underlying0
  a0 := Tryz.isAgg0
  z0 := Tryz.sizeOf0
  v0 := Tryz.zeroValue0
  t3 := Tryz.underlying3
  a3 := Tryz.isAgg3
  z3 := Tryz.sizeOf3
  v3 := Tryz.zeroValue3
  t4 := Tryz.underlying4
  a4 := Tryz.isAgg4
  z4 := Tryz.sizeOf4
  v4 := Tryz.zeroValue4
  t9 := Tryz.underlying9
  a9 := Tryz.isAgg9
  z9 := Tryz.sizeOf9
  v9 := Tryz.zeroValue9
  t20 := Tryz.underlying20
  a20 := Tryz.isAgg20
  z20 := Tryz.sizeOf20
  v20 := Tryz.zeroValue20
  t22 := Tryz.underlying27
  a22 := Tryz.isAgg27
  z22 := Tryz.sizeOf27
  v22 := Tryz.zeroValue27 }
theorem strI_info : (Tryz.prog.info? 9).map (fun i => (i.zero, i.size, i.bytes)) = some (some (.string ⟨#[]⟩), 1, 16) := by kernel_rfl
noncomputable def E_GrowS : Entry := fun ivs => match ivs with
  | [.cv (.pv .nils), .cv (.pv (.int .i64 n))] => [(decide (0 ≤ n) && decide (n ≤ 1000000), .cv (.lst 1 9 0 [] false), [])]
  | _ => []
theorem ok_GrowS : EntryOk Tryz.prog 102 E_GrowS := ⟨⟨_, Tryz.func102, by kernel_rfl, by kernel_rfl⟩, fun ivs res bxs h => by
  unfold E_GrowS at h
  split at h
  · rename_i n
    obtain ⟨hc, he⟩ := pick1 h
    cases he
    rw [Bool.and_eq_true, decide_eq_true_eq, decide_eq_true_eq] at hc
    obtain ⟨m, rfl⟩ := Int.eq_ofNat_of_zero_le hc.1
    have hm : m ≤ 1000000 := by omega
    refine contract_new (ps := [.nils, .int .i64 m]) fun w com vals hv hf => ?_
    obtain ⟨v, vs, rfl, hv1, hn⟩ := hv.of_cons
    obtain ⟨v2, vs2, rfl, hv2, hn2⟩ := hn.of_cons
    rw [hn2.of_nil]
    cases hv1
    cases hv2
    by_cases h0 : m = 0
    · subst h0
      refine (Any8.slices_Grow_room growS none 0 0 0 w (by omega) (by omega) (by omega) (by omega)).mono ?_
      rintro e w' ⟨rfl, rfl⟩
      exact ⟨_, [], rfl, ⟨rfl, .inl ⟨rfl, rfl⟩⟩, PReps.nil _ _, (fun u hu => by cases hu), Below.refl _ _⟩
    · obtain ⟨i0, hi0, hz0, hs0, hb0⟩ := info_parts strI_info
      refine (Any8.slices_Grow_grow growS i0 _ hi0 hz0 (by omega) none 0 0 m [] w (by omega) (by omega) (by rw [hb0]; omega) (by omega) (by rw [hs0]; rfl) (fun _ => rfl) (fun a ha => by cases ha)).mono ?_
      rintro e w' ⟨rfl, rfl⟩
      have hG := grownCap_ge w (0 + m) 0 9
      have hGm := grownCap_le_maxLen w (0 + m) 0 9 (by unfold maxLen; omega)
      have e25 : growS_ren.t 25 = 9 := rfl
      rw [e25]
      generalize grownCap w (0 + m) 0 9 = G at hG hGm ⊢
      refine ⟨_, [], rfl, ⟨rfl, .inr ⟨w.heap.size, G, _, rfl, Nat.le_refl _, heap_alloc_new w.drew _, Nat.zero_le _, hGm, ?_, by simp⟩⟩, PReps.nil _ _, (fun u hu => by cases hu), ((Below.refl _ _).drew).alloc (Nat.le_refl _) _⟩
      have hz : (Value.string ⟨#[]⟩).cells.size = 1 := rfl
      rw [Array.size_append, Array.size_append, size_zeroCells, size_zeroCells, hz]
      show 0 + _ + _ = _
      omega
  · cases h⟩
end

section
open Go.RowKit
set_option linter.unusedVariables false
set_option linter.unusedSimpArgs false

abbrev lp_cpL : List (Nat × List Nat × List Nat) := [(1000000, [19], [1, 15, 22]), (3, [0, 2, 3, 8, 9, 10], [0, 2, 3])]
abbrev kL (l : List NodeT) : AV × Option Ob := (.bad, some (.lst 3 33 l.length (encN l) true))
noncomputable def LO_cpL : LoopT := fun _ ls => match ls with
  | [(.bad, some (.lst 3 e n l true)), (.ptr x 0, some (.box [.pv .nils])), (.ptr y 0, some (.box [.pv .nils])), (.own z, none), (.pv (.int .i64 m), none), (.pv (.int .i64 i), none)] =>
    [(isNs (.sl n l) && Nat.beq e 33 && Nat.beq x 8192 && Nat.beq y 12288 && Nat.beq z 0 && (m == ((asNs (.sl n l)).length : Int)) && (i == 0) && holds (asNs (.sl n l) = []), .exit 0, [(.bad, some (.lst 3 33 n l true)), aBx 2 [.pv .nils], aBx 3 [.pv .nils]]),
     (isNs (.sl n l) && Nat.beq e 33 && Nat.beq x 8192 && Nat.beq y 12288 && Nat.beq z 0 && (m == ((asNs (.sl n l)).length : Int)) && (i == 0), .exit 0, [(.bad, some (.lst 3 33 n l true)), aBx 2 [.pv .nils], aBx 3 [lN (asNs (.sl n l))]])]
  | _ => []
noncomputable def r_cpL0 (br : Br) (t : List NodeT) (i : Int) := rdB br Tryz.prog iba6 lp_cpL LO_cpL Tryz.f26 3 [0] [kL t, aBx 2 [.pv .nils], aBx 3 [.pv .nils], ((.own 0, none) : AV × Option Ob), aI t.length, aI i]
noncomputable def r_cpL (br : Br) (t u : List NodeT) (i : Int) := rdB br Tryz.prog iba6 lp_cpL LO_cpL Tryz.f26 3 [0] [kL t, aBx 2 [.pv .nils], aBx 3 [lN u], ((.own 0, none) : AV × Option Ob), aI t.length, aI i]
noncomputable def q_cpL (br : Br) (t : List NodeT) := evB br Tryz.prog iba6 lp_cpL LO_cpL Tryz.f26 [.lk true [] 3 33 t.length (encN t) []]
noncomputable def E_cpL : Entry := fun ivs => match ivs with
  | [.lk true [] 3 e n l []] => [(isNs (.sl n l) && Nat.beq e 33, .agg [.pv (pNs (asNs (.sl n l)))], [[.lst 3 33 n l true]])]
  | [.cv (.pv p)] => [(isT p && holds (asT p = []), .agg [.pv (.sl 0 [])], [])]
  | _ => []
/-! slices.Concat of two lists of texts. -/
noncomputable def mgb0 : List (FuncId × Entry) := (102, E_GrowS) :: []
abbrev pp (xs ys : List ByteArray) : PV := .sl 2 [pL xs, pL ys]
abbrev lp_con : List (Nat × List Nat × List Nat) := [(3, [0, 3, 9, 10, 11], [0, 3]), (11, [6, 25, 26, 27], [6]), (1000001, [392], [])]
noncomputable def LO_con : LoopT := fun key ls => match key with
  | 3 => (match ls with
    | [(.pv z, none), (.pv (.int .i64 c), none), (.pv (.sl 2 [p, q]), none), (.pv (.int .i64 n), none), (.pv (.int .i64 i), none)] =>
      [(isL p && isL q && (c == 0) && (n == 2) && (i == 0), .exit 0, [aP z, aI ((asL p).length + (asL q).length)])]
    | _ => [])
  | 11 => (match ls with
    | [(.own x, some (.lst 1 e n l false)), (.pv (.sl 2 [p, q]), none), (.pv (.int .i64 m), none), (.pv (.int .i64 i), none)] =>
      [(isL p && isL q && Nat.beq x 24576 && Nat.beq e 9 && Nat.beq n 0 && nilB l && (m == 2) && (i == 0), .exit 2, [((.own 24576, some (.lst 1 9 (asL p ++ asL q).length ((asL p ++ asL q).map .str) false)) : AV × Option Ob)])]
    | _ => [])
  | _ => []
abbrev oS (slot : Nat) (l : List ByteArray) : AV × Option Ob := (.own (4096 * slot), some (.lst 1 9 l.length (l.map .str) false))
noncomputable def r_con30 (br : Br) (z : PV) (xs ys : List ByteArray) (c : Int) := rdB br Tryz.prog mgb0 lp_con LO_con Tryz.f68 3 [] [aP z, aI c, aP (pp xs ys), aI 2, aI 0]
noncomputable def r_con31 (br : Br) (z : PV) (xs ys : List ByteArray) (c : Int) := rdB br Tryz.prog mgb0 lp_con LO_con Tryz.f68 3 [] [aP z, aI c, aP (pp xs ys), aI 2, aI 1]
noncomputable def r_con32 (br : Br) (z : PV) (xs ys : List ByteArray) (c : Int) := rdB br Tryz.prog mgb0 lp_con LO_con Tryz.f68 3 [] [aP z, aI c, aP (pp xs ys), aI 2, aI 2]
noncomputable def r_con110 (br : Br) (xs ys : List ByteArray) := rdB br Tryz.prog mgb0 lp_con LO_con Tryz.f68 11 [] [((.own 24576, some (.lst 1 9 0 [] false)) : AV × Option Ob), aP (pp xs ys), aI 2, aI 0]
noncomputable def r_con111 (br : Br) (xs ys : List ByteArray) (zs : List ByteArray) := rdB br Tryz.prog mgb0 lp_con LO_con Tryz.f68 11 [] [oS 6 zs, aP (pp xs ys), aI 2, aI 1]
noncomputable def r_con112 (br : Br) (xs ys : List ByteArray) (zs : List ByteArray) := rdB br Tryz.prog mgb0 lp_con LO_con Tryz.f68 11 [] [oS 6 zs, aP (pp xs ys), aI 2, aI 2]
noncomputable def q_con (br : Br) (xs ys : List ByteArray) := evB br Tryz.prog mgb0 lp_con LO_con Tryz.f68 [cP (pp xs ys)]
noncomputable def E_con : Entry := fun ivs => match ivs with
  | [.cv (.pv (.sl 2 [p, q]))] => [(isL p && isL q && decide ((asL p).length + (asL q).length ≤ 1000), cP (pL (asL p ++ asL q)), [])]
  | _ => []
/-! The merge. -/
noncomputable def mgb1 : List (FuncId × Entry) := (26, E_cpL) :: (68, E_con) :: ibc1
abbrev lp_merge : List (Nat × List Nat × List Nat) := [(4, [0, 1, 2, 3, 4, 32, 33, 34], [0, 10]), (1000000, [], [30]), (1000001, [1600496], [])]
noncomputable def LO_merge : LoopT := fun _ ls => match ls with
  | [(.ptr 0 0, some (.box [.lst 3 e n l true])), (.pv (.str s), none), (.pv p, none), (.pv (.str f), none), (.pv q, none), (.pv r, none), (.pv (.int .i64 m), none), (.pv (.int .i64 i), none)] =>
    [(isNs (.sl n l) && Nat.beq e 33 && isL p && isL q && isNs r && (m == ((asNs r).length : Int)) && (i == 0) && placeB s (asL p) && treeB (asNs (.sl n l)) && treeB (asNs r) && holds ((mergeL s (asL p) f (asL q) (asNs r) (asNs (.sl n l))).2 = 0), .exit 0, [aB0 [lN (mergeL s (asL p) f (asL q) (asNs r) (asNs (.sl n l))).1], aX]),
     (isNs (.sl n l) && Nat.beq e 33 && isL p && isL q && isNs r && (m == ((asNs r).length : Int)) && (i == 0) && placeB s (asL p) && treeB (asNs (.sl n l)) && treeB (asNs r), .ret, [aB0 [lN (mergeL s (asL p) f (asL q) (asNs r) (asNs (.sl n l))).1], aI (mergeL s (asL p) f (asL q) (asNs r) (asNs (.sl n l))).2])]
  | [(.ptr 0 0, some (.box [.pv .nils])), (.pv (.str s), none), (.pv p, none), (.pv (.str f), none), (.pv q, none), (.pv r, none), (.pv (.int .i64 m), none), (.pv (.int .i64 i), none)] =>
    [((m == 0) && (i == 0), .exit 0, [aB0 [.pv .nils], aX])]
  | _ => []
noncomputable def r_merge (br : Br) (t : List NodeT) (s : ByteArray) (ss : List ByteArray) (f : ByteArray) (fs : List ByteArray) (r : List NodeT) (i : Int) := rdB br Tryz.prog mgb1 lp_merge LO_merge Tryz.f27 4 [0] [aB0 [lN t], aS s, aP (pL ss), aS f, aP (pL fs), aP (pNs r), aI r.length, aI i]
noncomputable def r_merge0 (br : Br) (s : ByteArray) (p : PV) (f : ByteArray) (q r : PV) := rdB br Tryz.prog mgb1 lp_merge LO_merge Tryz.f27 4 [0] [aB0 [.pv .nils], aS s, aP p, aS f, aP q, aP r, aI 0, aI 0]
noncomputable def q_merge (br : Br) (t : List NodeT) (s : ByteArray) (ss : List ByteArray) (f : ByteArray) (fs : List ByteArray) := evB br Tryz.prog mgb1 lp_merge LO_merge Tryz.f27 [.box 0 [lN t], cS s, cP (pL ss), cS f, cP (pL fs)]
noncomputable def q_merge0 (br : Br) (s : ByteArray) (ss : List ByteArray) (f : ByteArray) (fs : List ByteArray) := evB br Tryz.prog mgb1 lp_merge LO_merge Tryz.f27 [.box 0 [.pv .nils], cS s, cP (pL ss), cS f, cP (pL fs)]
/-- The two places overlap. -/
noncomputable def lapB (s : ByteArray) (ss : List ByteArray) (f : ByteArray) (fs : List ByteArray) : Bool := (s.toList == f.toList) && (begX ss fs || begX fs ss)
noncomputable def E_merge : Entry := fun ivs => match ivs with
  | [.box 0 [.lst 3 e n l true], .cv (.pv (.str s)), .cv (.pv p), .cv (.pv (.str f)), .cv (.pv q)] =>
    [(isNs (.sl n l) && Nat.beq e 33 && isL p && isL q && placeB s (asL p) && treeB (asNs (.sl n l)) && lapB s (asL p) f (asL q), cI 5, [[lN (asNs (.sl n l))]]),
     (isNs (.sl n l) && Nat.beq e 33 && isL p && isL q && placeB s (asL p) && treeB (asNs (.sl n l)), cI (mergeL s (asL p) f (asL q) (asNs (.sl n l)) (asNs (.sl n l))).2, [[lN (mergeL s (asL p) f (asL q) (asNs (.sl n l)) (asNs (.sl n l))).1]])]
  | [.box 0 [.pv .nils], .cv (.pv (.str s)), .cv (.pv p), .cv (.pv (.str f)), .cv (.pv q)] =>
    [(isL p && isL q && lapB s (asL p) f (asL q), cI 5, [[.pv .nils]]), (isL p && isL q, cI 0, [[.pv .nils]])]
  | _ => []
noncomputable def mgb2 : List (FuncId × Entry) := (27, E_merge) :: (26, E_copyTree) :: ibc0
abbrev lp_MergeNode : List (Nat × List Nat × List Nat) := [(1000000, [], [41])]
noncomputable def q_MergeNode (br : Br) (t : List NodeT) (s : ByteArray) (ss : List ByteArray) (f : ByteArray) (fs : List ByteArray) := evB br Tryz.prog mgb2 lp_MergeNode LO0 Tryz.f7 [cP (pT t), cS s, cP (pL ss), cS f, cP (pL fs)]
noncomputable def mergeW (t : List NodeT) (s : ByteArray) (ss : List ByteArray) (f : ByteArray) (fs : List ByteArray) : List NodeT × Int :=
  if (treeB t && placeB s ss && placeB f fs) = true then (if lapB s ss f fs = true then ([], 5) else if (mergeL s ss f fs t t).2 = 0 then ((mergeL s ss f fs t t).1, 0) else ([], (mergeL s ss f fs t t).2)) else ([], 1)
noncomputable def E_MergeNode : Entry := fun ivs => match ivs with
  | [.cv (.pv p), .cv (.pv (.str s)), .cv (.pv q), .cv (.pv (.str f)), .cv (.pv r)] =>
    [(isT p && decide (s.size ≤ 1000000) && decide (f.size ≤ 1000000) && isL q && isL r, .tup [.agg [.pv (pNs (mergeW (asT p) s (asL q) f (asL r)).1)], cI (mergeW (asT p) s (asL q) f (asL r)).2], [])]
  | _ => []
/-! The draw. -/
abbrev lp_dm : List (Nat × List Nat × List Nat) := [(1000000, [], [19, 25, 29])]
noncomputable def dmW1 (n : Nat) (l : List PV) : (ByteArray × List ByteArray) × Nat := whereV (treeV n l 0).1.2 n l (treeV n l 0).2
noncomputable def dmW2 (n : Nat) (l : List PV) : (ByteArray × List ByteArray) × Nat := whereV (treeV n l 0).1.2 n l (dmW1 n l).2
noncomputable def E_dm : Entry := fun ivs => match ivs with
  | [.cv (.pv (.sl n l))] => [(wfB n l && decide (n ≤ 1048577), .tup [.agg [.pv (pNs (treeV n l 0).1.2)], cS (dmW1 n l).1.1, cP (pL (dmW1 n l).1.2), cS (dmW2 n l).1.1, cP (pL (dmW2 n l).1.2)], [])]
  | _ => []
noncomputable def q_dm (br : Br) (n : Nat) (l : List PV) := evB br Tryz.prog xab lp_dm LO0 Tryz.f6 [cP (.sl n l)]
end

section
set_option linter.unusedVariables false
set_option maxRecDepth 100000
theorem r_merge0_eq (s : ByteArray) (p : PV) (f : ByteArray) (q : PV) (r : PV) : r_merge0 brC s p f q r =
 some (Sum.inr (Ex.exit 0, [(AV.ptr 0 0, some (Ob.box [CV.pv PV.nils])), (AV.bad, none)])) := by kernel_rfl
theorem q_con_eq (xs : List ByteArray) (ys : List ByteArray) : q_con brC xs ys =
 brC (isL (pL xs) && isL (pL ys) && 0 == 0 && (↑2 : Int) == 2 && 0 == 0)
  (brC (decide (0 ≤ (↑(List.length (asL (pL xs))) : Int) + (↑(List.length (asL (pL ys))) : Int)) && decide ((↑(List.length (asL (pL xs))) : Int) + (↑(List.length (asL (pL ys))) : Int) ≤ 1000000))
    (brC (isL (pL xs) && isL (pL ys) && Nat.beq 24576 24576 && Nat.beq 9 9 && Nat.beq 0 0 && nilB [] && (↑2 : Int) == 2 && 0 == 0)
      (some ((IV.cv (CV.lst 1 9 (List.length (asL (pL xs) ++ asL (pL ys))) (List.map PV.str (asL (pL xs) ++ asL (pL ys))) false), [])))
      (none))
    (none))
  (none) := by kernel_rfl
theorem r_con111_eq (xs : List ByteArray) (ys : List ByteArray) (zs : List ByteArray) : r_con111 brC xs ys zs =
 brC (Nat.beq (List.length (PV.slL (List.headD [pL ys] PV.nilp))) (PV.slN (List.headD [pL ys] PV.nilp) * 1) && (decide (List.length zs + PV.slN (List.headD [pL ys] PV.nilp) ≤ 140737488351232) && decide ((List.length zs + PV.slN (List.headD [pL ys] PV.nilp)) * 16 ≤ 140737488355328)))
  (some (Sum.inl [(AV.own 24576, some (Ob.lst 1 9 (List.length zs + PV.slN (List.headD [pL ys] PV.nilp)) (List.map PV.str zs ++ PV.slL (List.headD [pL ys] PV.nilp)) false)), (AV.pv (PV.sl 2 [PV.sl (List.length xs) (List.map PV.str xs), PV.sl (List.length ys) (List.map PV.str ys)]), none), (AV.pv (PV.int IntKind.i64 (Int.ofNat 2)), none), (AV.pv (PV.int IntKind.i64 (Int.ofNat 2)), none)]))
  (none) := by kernel_rfl
theorem r_cpL0_eq (t : List NodeT) (i : Int) : r_cpL0 brC t i =
 brC (decide (i < (↑(List.length t) : Int)))
  (brC (decide (0 ≤ i) && decide (i < (↑(List.length t) : Int)))
    (brC (Nat.ble (Int.toNat i * 3) (List.length (encN t)) && (Nat.ble 3 (List.length (List.drop (Int.toNat i * 3) (encN t))) && (PV.isStr (List.headD (List.drop (Int.toNat i * 3) (encN t)) PV.nilp) && (PV.isSl (List.headD (List.tail (List.drop (Int.toNat i * 3) (encN t))) PV.nilp) && (PV.isStr (List.headD (List.tail (List.tail (List.drop (Int.toNat i * 3) (encN t)))) PV.nilp) && true && true) && true) && true) && true))
      (brC (isN (PV.agg [PV.str (PV.asStr (List.headD (List.drop (Int.toNat i * 3) (encN t)) PV.nilp)), PV.sl (PV.slN (List.headD (List.tail (List.drop (Int.toNat i * 3) (encN t))) PV.nilp)) (PV.slL (List.headD (List.tail (List.drop (Int.toNat i * 3) (encN t))) PV.nilp)), PV.str (PV.asStr (List.headD (List.tail (List.tail (List.drop (Int.toNat i * 3) (encN t)))) PV.nilp))]))
        (some (Sum.inl [(AV.bad, some (Ob.lst 3 33 (List.length t) (encN t) true)), (AV.ptr 8192 0, some (Ob.box [CV.pv PV.nils])), (AV.ptr 12288 0, some (Ob.box [CV.lst 3 33 1 [PV.str (NodeT.name (asN (PV.agg [PV.str (PV.asStr (List.headD (List.drop (Int.toNat i * 3) (encN t)) PV.nilp)), PV.sl (PV.slN (List.headD (List.tail (List.drop (Int.toNat i * 3) (encN t))) PV.nilp)) (PV.slL (List.headD (List.tail (List.drop (Int.toNat i * 3) (encN t))) PV.nilp)), PV.str (PV.asStr (List.headD (List.tail (List.tail (List.drop (Int.toNat i * 3) (encN t)))) PV.nilp))]))), PV.sl (List.length (NodeT.subs (asN (PV.agg [PV.str (PV.asStr (List.headD (List.drop (Int.toNat i * 3) (encN t)) PV.nilp)), PV.sl (PV.slN (List.headD (List.tail (List.drop (Int.toNat i * 3) (encN t))) PV.nilp)) (PV.slL (List.headD (List.tail (List.drop (Int.toNat i * 3) (encN t))) PV.nilp)), PV.str (PV.asStr (List.headD (List.tail (List.tail (List.drop (Int.toNat i * 3) (encN t)))) PV.nilp))])))) (List.map PV.str (NodeT.subs (asN (PV.agg [PV.str (PV.asStr (List.headD (List.drop (Int.toNat i * 3) (encN t)) PV.nilp)), PV.sl (PV.slN (List.headD (List.tail (List.drop (Int.toNat i * 3) (encN t))) PV.nilp)) (PV.slL (List.headD (List.tail (List.drop (Int.toNat i * 3) (encN t))) PV.nilp)), PV.str (PV.asStr (List.headD (List.tail (List.tail (List.drop (Int.toNat i * 3) (encN t)))) PV.nilp))])))), PV.str (NodeT.value (asN (PV.agg [PV.str (PV.asStr (List.headD (List.drop (Int.toNat i * 3) (encN t)) PV.nilp)), PV.sl (PV.slN (List.headD (List.tail (List.drop (Int.toNat i * 3) (encN t))) PV.nilp)) (PV.slL (List.headD (List.tail (List.drop (Int.toNat i * 3) (encN t))) PV.nilp)), PV.str (PV.asStr (List.headD (List.tail (List.tail (List.drop (Int.toNat i * 3) (encN t)))) PV.nilp))])))] true])), (AV.own 0, none), (AV.pv (PV.int IntKind.i64 (↑(List.length t) : Int)), none), (AV.pv (PV.int IntKind.i64 (IntKind.wrap IntKind.i64 (i + 1))), none)]))
        (none))
      (none))
    (none))
  (some (Sum.inr (Ex.exit 0, [(AV.bad, some (Ob.lst 3 33 (List.length t) (encN t) true)), (AV.ptr 8192 0, some (Ob.box [CV.pv PV.nils])), (AV.ptr 12288 0, some (Ob.box [CV.pv PV.nils]))]))) := by kernel_rfl
theorem r_cpL_eq (t : List NodeT) (u : List NodeT) (i : Int) : r_cpL brC t u i =
 brC (decide (i < (↑(List.length t) : Int)))
  (brC (decide (0 ≤ i) && decide (i < (↑(List.length t) : Int)))
    (brC (Nat.ble (Int.toNat i * 3) (List.length (encN t)) && (Nat.ble 3 (List.length (List.drop (Int.toNat i * 3) (encN t))) && (PV.isStr (List.headD (List.drop (Int.toNat i * 3) (encN t)) PV.nilp) && (PV.isSl (List.headD (List.tail (List.drop (Int.toNat i * 3) (encN t))) PV.nilp) && (PV.isStr (List.headD (List.tail (List.tail (List.drop (Int.toNat i * 3) (encN t)))) PV.nilp) && true && true) && true) && true) && true))
      (brC (isN (PV.agg [PV.str (PV.asStr (List.headD (List.drop (Int.toNat i * 3) (encN t)) PV.nilp)), PV.sl (PV.slN (List.headD (List.tail (List.drop (Int.toNat i * 3) (encN t))) PV.nilp)) (PV.slL (List.headD (List.tail (List.drop (Int.toNat i * 3) (encN t))) PV.nilp)), PV.str (PV.asStr (List.headD (List.tail (List.tail (List.drop (Int.toNat i * 3) (encN t)))) PV.nilp))]))
        (brC (Nat.beq (List.length [PV.str (NodeT.name (asN (PV.agg [PV.str (PV.asStr (List.headD (List.drop (Int.toNat i * 3) (encN t)) PV.nilp)), PV.sl (PV.slN (List.headD (List.tail (List.drop (Int.toNat i * 3) (encN t))) PV.nilp)) (PV.slL (List.headD (List.tail (List.drop (Int.toNat i * 3) (encN t))) PV.nilp)), PV.str (PV.asStr (List.headD (List.tail (List.tail (List.drop (Int.toNat i * 3) (encN t)))) PV.nilp))]))), PV.sl (List.length (NodeT.subs (asN (PV.agg [PV.str (PV.asStr (List.headD (List.drop (Int.toNat i * 3) (encN t)) PV.nilp)), PV.sl (PV.slN (List.headD (List.tail (List.drop (Int.toNat i * 3) (encN t))) PV.nilp)) (PV.slL (List.headD (List.tail (List.drop (Int.toNat i * 3) (encN t))) PV.nilp)), PV.str (PV.asStr (List.headD (List.tail (List.tail (List.drop (Int.toNat i * 3) (encN t)))) PV.nilp))])))) (List.map PV.str (NodeT.subs (asN (PV.agg [PV.str (PV.asStr (List.headD (List.drop (Int.toNat i * 3) (encN t)) PV.nilp)), PV.sl (PV.slN (List.headD (List.tail (List.drop (Int.toNat i * 3) (encN t))) PV.nilp)) (PV.slL (List.headD (List.tail (List.drop (Int.toNat i * 3) (encN t))) PV.nilp)), PV.str (PV.asStr (List.headD (List.tail (List.tail (List.drop (Int.toNat i * 3) (encN t)))) PV.nilp))])))), PV.str (NodeT.value (asN (PV.agg [PV.str (PV.asStr (List.headD (List.drop (Int.toNat i * 3) (encN t)) PV.nilp)), PV.sl (PV.slN (List.headD (List.tail (List.drop (Int.toNat i * 3) (encN t))) PV.nilp)) (PV.slL (List.headD (List.tail (List.drop (Int.toNat i * 3) (encN t))) PV.nilp)), PV.str (PV.asStr (List.headD (List.tail (List.tail (List.drop (Int.toNat i * 3) (encN t)))) PV.nilp))])))]) (1 * 3) && (decide (List.length u + 1 ≤ 140737488351232) && decide ((List.length u + 1) * 56 ≤ 140737488355328)))
          (some (Sum.inl [(AV.bad, some (Ob.lst 3 33 (List.length t) (encN t) true)), (AV.ptr 8192 0, some (Ob.box [CV.pv PV.nils])), (AV.ptr 12288 0, some (Ob.box [CV.lst 3 33 (List.length u + 1) (encN u ++ [PV.str (NodeT.name (asN (PV.agg [PV.str (PV.asStr (List.headD (List.drop (Int.toNat i * 3) (encN t)) PV.nilp)), PV.sl (PV.slN (List.headD (List.tail (List.drop (Int.toNat i * 3) (encN t))) PV.nilp)) (PV.slL (List.headD (List.tail (List.drop (Int.toNat i * 3) (encN t))) PV.nilp)), PV.str (PV.asStr (List.headD (List.tail (List.tail (List.drop (Int.toNat i * 3) (encN t)))) PV.nilp))]))), PV.sl (List.length (NodeT.subs (asN (PV.agg [PV.str (PV.asStr (List.headD (List.drop (Int.toNat i * 3) (encN t)) PV.nilp)), PV.sl (PV.slN (List.headD (List.tail (List.drop (Int.toNat i * 3) (encN t))) PV.nilp)) (PV.slL (List.headD (List.tail (List.drop (Int.toNat i * 3) (encN t))) PV.nilp)), PV.str (PV.asStr (List.headD (List.tail (List.tail (List.drop (Int.toNat i * 3) (encN t)))) PV.nilp))])))) (List.map PV.str (NodeT.subs (asN (PV.agg [PV.str (PV.asStr (List.headD (List.drop (Int.toNat i * 3) (encN t)) PV.nilp)), PV.sl (PV.slN (List.headD (List.tail (List.drop (Int.toNat i * 3) (encN t))) PV.nilp)) (PV.slL (List.headD (List.tail (List.drop (Int.toNat i * 3) (encN t))) PV.nilp)), PV.str (PV.asStr (List.headD (List.tail (List.tail (List.drop (Int.toNat i * 3) (encN t)))) PV.nilp))])))), PV.str (NodeT.value (asN (PV.agg [PV.str (PV.asStr (List.headD (List.drop (Int.toNat i * 3) (encN t)) PV.nilp)), PV.sl (PV.slN (List.headD (List.tail (List.drop (Int.toNat i * 3) (encN t))) PV.nilp)) (PV.slL (List.headD (List.tail (List.drop (Int.toNat i * 3) (encN t))) PV.nilp)), PV.str (PV.asStr (List.headD (List.tail (List.tail (List.drop (Int.toNat i * 3) (encN t)))) PV.nilp))])))]) true])), (AV.own 0, none), (AV.pv (PV.int IntKind.i64 (↑(List.length t) : Int)), none), (AV.pv (PV.int IntKind.i64 (IntKind.wrap IntKind.i64 (i + 1))), none)]))
          (none))
        (none))
      (none))
    (none))
  (some (Sum.inr (Ex.exit 0, [(AV.bad, some (Ob.lst 3 33 (List.length t) (encN t) true)), (AV.ptr 8192 0, some (Ob.box [CV.pv PV.nils])), (AV.ptr 12288 0, some (Ob.box [CV.lst 3 33 (List.length u) (encN u) true]))]))) := by kernel_rfl
theorem q_cpL_eq (t : List NodeT) : q_cpL brC t =
 brC (isNs (PV.sl (List.length t) (encN t)) && Nat.beq 33 33 && Nat.beq 8192 8192 && Nat.beq 12288 12288 && Nat.beq 0 0 && (↑(List.length t) : Int) == (↑(List.length (asNs (PV.sl (List.length t) (encN t)))) : Int) && 0 == 0 && holds (asNs (PV.sl (List.length t) (encN t)) = []))
  (brC (Nat.beq (List.length t) (List.length t))
    (some ((IV.agg [CV.pv PV.nils], [[CV.lst 3 33 (List.length t) (encN t) true]])))
    (none))
  (brC (isNs (PV.sl (List.length t) (encN t)) && Nat.beq 33 33 && Nat.beq 8192 8192 && Nat.beq 12288 12288 && Nat.beq 0 0 && (↑(List.length t) : Int) == (↑(List.length (asNs (PV.sl (List.length t) (encN t)))) : Int) && 0 == 0)
    (brC (Nat.beq (List.length t) (List.length t))
      (some ((IV.agg [CV.lst 3 33 (List.length (asNs (PV.sl (List.length t) (encN t)))) (encN (asNs (PV.sl (List.length t) (encN t)))) true], [[CV.lst 3 33 (List.length t) (encN t) true]])))
      (none))
    (none)) := by kernel_rfl
theorem r_con110_eq (xs : List ByteArray) (ys : List ByteArray) : r_con110 brC xs ys =
 brC (Nat.beq (List.length (PV.slL (List.headD [pL xs, pL ys] PV.nilp))) (PV.slN (List.headD [pL xs, pL ys] PV.nilp) * 1) && (decide (0 + PV.slN (List.headD [pL xs, pL ys] PV.nilp) ≤ 140737488351232) && decide ((0 + PV.slN (List.headD [pL xs, pL ys] PV.nilp)) * 16 ≤ 140737488355328)))
  (some (Sum.inl [(AV.own 24576, some (Ob.lst 1 9 (0 + PV.slN (List.headD [pL xs, pL ys] PV.nilp)) ([] ++ PV.slL (List.headD [pL xs, pL ys] PV.nilp)) false)), (AV.pv (PV.sl 2 [PV.sl (List.length xs) (List.map PV.str xs), PV.sl (List.length ys) (List.map PV.str ys)]), none), (AV.pv (PV.int IntKind.i64 (Int.ofNat 2)), none), (AV.pv (PV.int IntKind.i64 (Int.ofNat 1)), none)]))
  (none) := by kernel_rfl
theorem r_merge_eq (t : List NodeT) (s : ByteArray) (ss : List ByteArray) (f : ByteArray) (fs : List ByteArray) (r : List NodeT) (i : Int) : r_merge brC t s ss f fs r i =
 brC (decide (i < (↑(List.length r) : Int)))
  (brC (decide (0 ≤ i) && decide (i < (↑(List.length r) : Int)))
    (brC (Nat.ble 3 (List.length (List.drop (Int.toNat i * 3) (encN r))) && (PV.isStr (List.headD (List.drop (Int.toNat i * 3) (encN r)) PV.nilp) && (PV.isSl (List.headD (List.tail (List.drop (Int.toNat i * 3) (encN r))) PV.nilp) && (PV.isStr (List.headD (List.tail (List.tail (List.drop (Int.toNat i * 3) (encN r)))) PV.nilp) && true && true) && true) && true) && true)
      (brC (isN (PV.agg [PV.str (PV.asStr (List.headD (List.drop (Int.toNat i * 3) (encN r)) PV.nilp)), PV.sl (PV.slN (List.headD (List.tail (List.drop (Int.toNat i * 3) (encN r))) PV.nilp)) (PV.slL (List.headD (List.tail (List.drop (Int.toNat i * 3) (encN r))) PV.nilp)), PV.str (PV.asStr (List.headD (List.tail (List.tail (List.drop (Int.toNat i * 3) (encN r)))) PV.nilp))]) && isL (PV.sl (List.length fs) (List.map PV.str fs)))
        (brC (!inX (asN (PV.agg [PV.str (PV.asStr (List.headD (List.drop (Int.toNat i * 3) (encN r)) PV.nilp)), PV.sl (PV.slN (List.headD (List.tail (List.drop (Int.toNat i * 3) (encN r))) PV.nilp)) (PV.slL (List.headD (List.tail (List.drop (Int.toNat i * 3) (encN r))) PV.nilp)), PV.str (PV.asStr (List.headD (List.tail (List.tail (List.drop (Int.toNat i * 3) (encN r)))) PV.nilp))])) f (asL (PV.sl (List.length fs) (List.map PV.str fs))))
          (some (Sum.inl [(AV.ptr 0 0, some (Ob.box [CV.lst 3 33 (List.length t) (encN t) true])), (AV.pv (PV.str s), none), (AV.pv (PV.sl (List.length ss) (List.map PV.str ss)), none), (AV.pv (PV.str f), none), (AV.pv (PV.sl (List.length fs) (List.map PV.str fs)), none), (AV.pv (PV.sl (List.length r) (encN r)), none), (AV.pv (PV.int IntKind.i64 (↑(List.length r) : Int)), none), (AV.pv (PV.int IntKind.i64 (IntKind.wrap IntKind.i64 (i + 1))), none)]))
          (brC (decide (0 ≤ (↑(List.length fs) : Int)) && decide ((↑(List.length fs) : Int) ≤ (↑(PV.slN (List.headD (List.tail (List.drop (Int.toNat i * 3) (encN r))) PV.nilp)) : Int)) && decide ((↑(PV.slN (List.headD (List.tail (List.drop (Int.toNat i * 3) (encN r))) PV.nilp)) : Int) ≤ (↑(PV.slN (List.headD (List.tail (List.drop (Int.toNat i * 3) (encN r))) PV.nilp)) : Int)) && true && true)
            (brC (isL (PV.sl (List.length ss) (List.map PV.str ss)) && isL (PV.sl (Int.toNat (↑(PV.slN (List.headD (List.tail (List.drop (Int.toNat i * 3) (encN r))) PV.nilp)) : Int) - Int.toNat (↑(List.length fs) : Int)) (List.take ((Int.toNat (↑(PV.slN (List.headD (List.tail (List.drop (Int.toNat i * 3) (encN r))) PV.nilp)) : Int) - Int.toNat (↑(List.length fs) : Int)) * 1) (List.drop (Int.toNat (↑(List.length fs) : Int) * 1) (PV.slL (List.headD (List.tail (List.drop (Int.toNat i * 3) (encN r))) PV.nilp))))) && decide (List.length (asL (PV.sl (List.length ss) (List.map PV.str ss))) + List.length (asL (PV.sl (Int.toNat (↑(PV.slN (List.headD (List.tail (List.drop (Int.toNat i * 3) (encN r))) PV.nilp)) : Int) - Int.toNat (↑(List.length fs) : Int)) (List.take ((Int.toNat (↑(PV.slN (List.headD (List.tail (List.drop (Int.toNat i * 3) (encN r))) PV.nilp)) : Int) - Int.toNat (↑(List.length fs) : Int)) * 1) (List.drop (Int.toNat (↑(List.length fs) : Int) * 1) (PV.slL (List.headD (List.tail (List.drop (Int.toNat i * 3) (encN r))) PV.nilp)))))) ≤ 1000))
              (brC (isL (PV.sl (List.length (asL (PV.sl (List.length ss) (List.map PV.str ss)) ++ asL (PV.sl (Int.toNat (↑(PV.slN (List.headD (List.tail (List.drop (Int.toNat i * 3) (encN r))) PV.nilp)) : Int) - Int.toNat (↑(List.length fs) : Int)) (List.take ((Int.toNat (↑(PV.slN (List.headD (List.tail (List.drop (Int.toNat i * 3) (encN r))) PV.nilp)) : Int) - Int.toNat (↑(List.length fs) : Int)) * 1) (List.drop (Int.toNat (↑(List.length fs) : Int) * 1) (PV.slL (List.headD (List.tail (List.drop (Int.toNat i * 3) (encN r))) PV.nilp))))))) (List.map PV.str (asL (PV.sl (List.length ss) (List.map PV.str ss)) ++ asL (PV.sl (Int.toNat (↑(PV.slN (List.headD (List.tail (List.drop (Int.toNat i * 3) (encN r))) PV.nilp)) : Int) - Int.toNat (↑(List.length fs) : Int)) (List.take ((Int.toNat (↑(PV.slN (List.headD (List.tail (List.drop (Int.toNat i * 3) (encN r))) PV.nilp)) : Int) - Int.toNat (↑(List.length fs) : Int)) * 1) (List.drop (Int.toNat (↑(List.length fs) : Int) * 1) (PV.slL (List.headD (List.tail (List.drop (Int.toNat i * 3) (encN r))) PV.nilp)))))))))
                (brC (!subsB (asL (PV.sl (List.length (asL (PV.sl (List.length ss) (List.map PV.str ss)) ++ asL (PV.sl (Int.toNat (↑(PV.slN (List.headD (List.tail (List.drop (Int.toNat i * 3) (encN r))) PV.nilp)) : Int) - Int.toNat (↑(List.length fs) : Int)) (List.take ((Int.toNat (↑(PV.slN (List.headD (List.tail (List.drop (Int.toNat i * 3) (encN r))) PV.nilp)) : Int) - Int.toNat (↑(List.length fs) : Int)) * 1) (List.drop (Int.toNat (↑(List.length fs) : Int) * 1) (PV.slL (List.headD (List.tail (List.drop (Int.toNat i * 3) (encN r))) PV.nilp))))))) (List.map PV.str (asL (PV.sl (List.length ss) (List.map PV.str ss)) ++ asL (PV.sl (Int.toNat (↑(PV.slN (List.headD (List.tail (List.drop (Int.toNat i * 3) (encN r))) PV.nilp)) : Int) - Int.toNat (↑(List.length fs) : Int)) (List.take ((Int.toNat (↑(PV.slN (List.headD (List.tail (List.drop (Int.toNat i * 3) (encN r))) PV.nilp)) : Int) - Int.toNat (↑(List.length fs) : Int)) * 1) (List.drop (Int.toNat (↑(List.length fs) : Int) * 1) (PV.slL (List.headD (List.tail (List.drop (Int.toNat i * 3) (encN r))) PV.nilp))))))))))
                  (some (Sum.inr (Ex.ret, [(AV.ptr 0 0, some (Ob.box [CV.lst 3 33 (List.length t) (encN t) true])), (AV.pv (PV.int IntKind.i64 (Int.ofNat 1)), none)])))
                  (brC (isNs (PV.sl (List.length t) (encN t)) && Nat.beq 33 33 && isL (PV.sl (List.length (asL (PV.sl (List.length ss) (List.map PV.str ss)) ++ asL (PV.sl (Int.toNat (↑(PV.slN (List.headD (List.tail (List.drop (Int.toNat i * 3) (encN r))) PV.nilp)) : Int) - Int.toNat (↑(List.length fs) : Int)) (List.take ((Int.toNat (↑(PV.slN (List.headD (List.tail (List.drop (Int.toNat i * 3) (encN r))) PV.nilp)) : Int) - Int.toNat (↑(List.length fs) : Int)) * 1) (List.drop (Int.toNat (↑(List.length fs) : Int) * 1) (PV.slL (List.headD (List.tail (List.drop (Int.toNat i * 3) (encN r))) PV.nilp))))))) (List.map PV.str (asL (PV.sl (List.length ss) (List.map PV.str ss)) ++ asL (PV.sl (Int.toNat (↑(PV.slN (List.headD (List.tail (List.drop (Int.toNat i * 3) (encN r))) PV.nilp)) : Int) - Int.toNat (↑(List.length fs) : Int)) (List.take ((Int.toNat (↑(PV.slN (List.headD (List.tail (List.drop (Int.toNat i * 3) (encN r))) PV.nilp)) : Int) - Int.toNat (↑(List.length fs) : Int)) * 1) (List.drop (Int.toNat (↑(List.length fs) : Int) * 1) (PV.slL (List.headD (List.tail (List.drop (Int.toNat i * 3) (encN r))) PV.nilp)))))))) && decide (ByteArray.size s ≤ 1000000) && treeB (asNs (PV.sl (List.length t) (encN t))) && !hasAt (asNs (PV.sl (List.length t) (encN t))) s (asL (PV.sl (List.length (asL (PV.sl (List.length ss) (List.map PV.str ss)) ++ asL (PV.sl (Int.toNat (↑(PV.slN (List.headD (List.tail (List.drop (Int.toNat i * 3) (encN r))) PV.nilp)) : Int) - Int.toNat (↑(List.length fs) : Int)) (List.take ((Int.toNat (↑(PV.slN (List.headD (List.tail (List.drop (Int.toNat i * 3) (encN r))) PV.nilp)) : Int) - Int.toNat (↑(List.length fs) : Int)) * 1) (List.drop (Int.toNat (↑(List.length fs) : Int) * 1) (PV.slL (List.headD (List.tail (List.drop (Int.toNat i * 3) (encN r))) PV.nilp))))))) (List.map PV.str (asL (PV.sl (List.length ss) (List.map PV.str ss)) ++ asL (PV.sl (Int.toNat (↑(PV.slN (List.headD (List.tail (List.drop (Int.toNat i * 3) (encN r))) PV.nilp)) : Int) - Int.toNat (↑(List.length fs) : Int)) (List.take ((Int.toNat (↑(PV.slN (List.headD (List.tail (List.drop (Int.toNat i * 3) (encN r))) PV.nilp)) : Int) - Int.toNat (↑(List.length fs) : Int)) * 1) (List.drop (Int.toNat (↑(List.length fs) : Int) * 1) (PV.slL (List.headD (List.tail (List.drop (Int.toNat i * 3) (encN r))) PV.nilp))))))))) && decide (List.length t = 120))
                    (some (Sum.inr (Ex.ret, [(AV.ptr 0 0, some (Ob.box [CV.lst 3 33 (List.length (asNs (PV.sl (List.length t) (encN t)))) (encN (asNs (PV.sl (List.length t) (encN t)))) true])), (AV.pv (PV.int IntKind.i64 (Int.ofNat 4)), none)])))
                    (brC (isNs (PV.sl (List.length t) (encN t)) && Nat.beq 33 33 && isL (PV.sl (List.length (asL (PV.sl (List.length ss) (List.map PV.str ss)) ++ asL (PV.sl (Int.toNat (↑(PV.slN (List.headD (List.tail (List.drop (Int.toNat i * 3) (encN r))) PV.nilp)) : Int) - Int.toNat (↑(List.length fs) : Int)) (List.take ((Int.toNat (↑(PV.slN (List.headD (List.tail (List.drop (Int.toNat i * 3) (encN r))) PV.nilp)) : Int) - Int.toNat (↑(List.length fs) : Int)) * 1) (List.drop (Int.toNat (↑(List.length fs) : Int) * 1) (PV.slL (List.headD (List.tail (List.drop (Int.toNat i * 3) (encN r))) PV.nilp))))))) (List.map PV.str (asL (PV.sl (List.length ss) (List.map PV.str ss)) ++ asL (PV.sl (Int.toNat (↑(PV.slN (List.headD (List.tail (List.drop (Int.toNat i * 3) (encN r))) PV.nilp)) : Int) - Int.toNat (↑(List.length fs) : Int)) (List.take ((Int.toNat (↑(PV.slN (List.headD (List.tail (List.drop (Int.toNat i * 3) (encN r))) PV.nilp)) : Int) - Int.toNat (↑(List.length fs) : Int)) * 1) (List.drop (Int.toNat (↑(List.length fs) : Int) * 1) (PV.slL (List.headD (List.tail (List.drop (Int.toNat i * 3) (encN r))) PV.nilp)))))))) && decide (ByteArray.size s ≤ 1000000) && treeB (asNs (PV.sl (List.length t) (encN t))))
                      (some (Sum.inl [(AV.ptr 0 0, some (Ob.box [CV.lst 3 33 (List.length (putT (asNs (PV.sl (List.length t) (encN t))) s (asL (PV.sl (List.length (asL (PV.sl (List.length ss) (List.map PV.str ss)) ++ asL (PV.sl (Int.toNat (↑(PV.slN (List.headD (List.tail (List.drop (Int.toNat i * 3) (encN r))) PV.nilp)) : Int) - Int.toNat (↑(List.length fs) : Int)) (List.take ((Int.toNat (↑(PV.slN (List.headD (List.tail (List.drop (Int.toNat i * 3) (encN r))) PV.nilp)) : Int) - Int.toNat (↑(List.length fs) : Int)) * 1) (List.drop (Int.toNat (↑(List.length fs) : Int) * 1) (PV.slL (List.headD (List.tail (List.drop (Int.toNat i * 3) (encN r))) PV.nilp))))))) (List.map PV.str (asL (PV.sl (List.length ss) (List.map PV.str ss)) ++ asL (PV.sl (Int.toNat (↑(PV.slN (List.headD (List.tail (List.drop (Int.toNat i * 3) (encN r))) PV.nilp)) : Int) - Int.toNat (↑(List.length fs) : Int)) (List.take ((Int.toNat (↑(PV.slN (List.headD (List.tail (List.drop (Int.toNat i * 3) (encN r))) PV.nilp)) : Int) - Int.toNat (↑(List.length fs) : Int)) * 1) (List.drop (Int.toNat (↑(List.length fs) : Int) * 1) (PV.slL (List.headD (List.tail (List.drop (Int.toNat i * 3) (encN r))) PV.nilp))))))))) (PV.asStr (List.headD (List.tail (List.tail (List.drop (Int.toNat i * 3) (encN r)))) PV.nilp)))) (encN (putT (asNs (PV.sl (List.length t) (encN t))) s (asL (PV.sl (List.length (asL (PV.sl (List.length ss) (List.map PV.str ss)) ++ asL (PV.sl (Int.toNat (↑(PV.slN (List.headD (List.tail (List.drop (Int.toNat i * 3) (encN r))) PV.nilp)) : Int) - Int.toNat (↑(List.length fs) : Int)) (List.take ((Int.toNat (↑(PV.slN (List.headD (List.tail (List.drop (Int.toNat i * 3) (encN r))) PV.nilp)) : Int) - Int.toNat (↑(List.length fs) : Int)) * 1) (List.drop (Int.toNat (↑(List.length fs) : Int) * 1) (PV.slL (List.headD (List.tail (List.drop (Int.toNat i * 3) (encN r))) PV.nilp))))))) (List.map PV.str (asL (PV.sl (List.length ss) (List.map PV.str ss)) ++ asL (PV.sl (Int.toNat (↑(PV.slN (List.headD (List.tail (List.drop (Int.toNat i * 3) (encN r))) PV.nilp)) : Int) - Int.toNat (↑(List.length fs) : Int)) (List.take ((Int.toNat (↑(PV.slN (List.headD (List.tail (List.drop (Int.toNat i * 3) (encN r))) PV.nilp)) : Int) - Int.toNat (↑(List.length fs) : Int)) * 1) (List.drop (Int.toNat (↑(List.length fs) : Int) * 1) (PV.slL (List.headD (List.tail (List.drop (Int.toNat i * 3) (encN r))) PV.nilp))))))))) (PV.asStr (List.headD (List.tail (List.tail (List.drop (Int.toNat i * 3) (encN r)))) PV.nilp)))) true])), (AV.pv (PV.str s), none), (AV.pv (PV.sl (List.length ss) (List.map PV.str ss)), none), (AV.pv (PV.str f), none), (AV.pv (PV.sl (List.length fs) (List.map PV.str fs)), none), (AV.pv (PV.sl (List.length r) (encN r)), none), (AV.pv (PV.int IntKind.i64 (↑(List.length r) : Int)), none), (AV.pv (PV.int IntKind.i64 (IntKind.wrap IntKind.i64 (i + 1))), none)]))
                      (none))))
                (none))
              (none))
            (none)))
        (none))
      (none))
    (none))
  (some (Sum.inr (Ex.exit 0, [(AV.ptr 0 0, some (Ob.box [CV.lst 3 33 (List.length t) (encN t) true])), (AV.bad, none)]))) := by kernel_rfl
theorem q_dm_eq (n : Nat) (l : List PV) : q_dm brC n l =
 brC (srcOk n l 0 0 && decide (0 ≤ 400000) && Prod.fst (Prod.fst (treeV n l 0)))
  (brC (srcOk n l (↑(Prod.snd (treeV n l 0)) : Int) (seedK l (Prod.snd (treeV n l 0))) && decide ((↑(Prod.snd (treeV n l 0)) : Int) ≤ 400000) && isT (PV.agg [PV.sl 0 []]) && holds (List.length (asT (PV.agg [PV.sl 0 []])) ≤ 200 ∧ few (asT (PV.agg [PV.sl 0 []]))))
    (brC (srcOk n l (↑(Prod.snd (whereV (asT (PV.agg [PV.sl 0 []])) n l (Int.toNat (↑(Prod.snd (treeV n l 0)) : Int)))) : Int) (seedK l (Prod.snd (whereV (asT (PV.agg [PV.sl 0 []])) n l (Int.toNat (↑(Prod.snd (treeV n l 0)) : Int))))) && decide ((↑(Prod.snd (whereV (asT (PV.agg [PV.sl 0 []])) n l (Int.toNat (↑(Prod.snd (treeV n l 0)) : Int)))) : Int) ≤ 400000) && isT (PV.agg [PV.sl 0 []]) && holds (List.length (asT (PV.agg [PV.sl 0 []])) ≤ 200 ∧ few (asT (PV.agg [PV.sl 0 []]))))
      (some ((IV.tup [IV.agg [CV.pv PV.nils], IV.cv (CV.pv (PV.str (Prod.fst (Prod.fst (whereV (asT (PV.agg [PV.sl 0 []])) n l (Int.toNat (↑(Prod.snd (treeV n l 0)) : Int))))))), IV.cv (CV.lst 1 9 (List.length (Prod.snd (Prod.fst (whereV (asT (PV.agg [PV.sl 0 []])) n l (Int.toNat (↑(Prod.snd (treeV n l 0)) : Int)))))) (List.map PV.str (Prod.snd (Prod.fst (whereV (asT (PV.agg [PV.sl 0 []])) n l (Int.toNat (↑(Prod.snd (treeV n l 0)) : Int)))))) false), IV.cv (CV.pv (PV.str (Prod.fst (Prod.fst (whereV (asT (PV.agg [PV.sl 0 []])) n l (Int.toNat (↑(Prod.snd (whereV (asT (PV.agg [PV.sl 0 []])) n l (Int.toNat (↑(Prod.snd (treeV n l 0)) : Int)))) : Int))))))), IV.cv (CV.lst 1 9 (List.length (Prod.snd (Prod.fst (whereV (asT (PV.agg [PV.sl 0 []])) n l (Int.toNat (↑(Prod.snd (whereV (asT (PV.agg [PV.sl 0 []])) n l (Int.toNat (↑(Prod.snd (treeV n l 0)) : Int)))) : Int)))))) (List.map PV.str (Prod.snd (Prod.fst (whereV (asT (PV.agg [PV.sl 0 []])) n l (Int.toNat (↑(Prod.snd (whereV (asT (PV.agg [PV.sl 0 []])) n l (Int.toNat (↑(Prod.snd (treeV n l 0)) : Int)))) : Int)))))) false)], [])))
      (none))
    (none))
  (brC (srcOk n l 0 0 && decide (0 ≤ 400000))
    (brC (srcOk n l (↑(Prod.snd (treeV n l 0)) : Int) (seedK l (Prod.snd (treeV n l 0))) && decide ((↑(Prod.snd (treeV n l 0)) : Int) ≤ 400000) && isT (PV.agg [PV.sl (List.length (Prod.snd (Prod.fst (treeV n l 0)))) (encN (Prod.snd (Prod.fst (treeV n l 0))))]) && holds (List.length (asT (PV.agg [PV.sl (List.length (Prod.snd (Prod.fst (treeV n l 0)))) (encN (Prod.snd (Prod.fst (treeV n l 0))))])) ≤ 200 ∧ few (asT (PV.agg [PV.sl (List.length (Prod.snd (Prod.fst (treeV n l 0)))) (encN (Prod.snd (Prod.fst (treeV n l 0))))]))))
      (brC (srcOk n l (↑(Prod.snd (whereV (asT (PV.agg [PV.sl (List.length (Prod.snd (Prod.fst (treeV n l 0)))) (encN (Prod.snd (Prod.fst (treeV n l 0))))])) n l (Int.toNat (↑(Prod.snd (treeV n l 0)) : Int)))) : Int) (seedK l (Prod.snd (whereV (asT (PV.agg [PV.sl (List.length (Prod.snd (Prod.fst (treeV n l 0)))) (encN (Prod.snd (Prod.fst (treeV n l 0))))])) n l (Int.toNat (↑(Prod.snd (treeV n l 0)) : Int))))) && decide ((↑(Prod.snd (whereV (asT (PV.agg [PV.sl (List.length (Prod.snd (Prod.fst (treeV n l 0)))) (encN (Prod.snd (Prod.fst (treeV n l 0))))])) n l (Int.toNat (↑(Prod.snd (treeV n l 0)) : Int)))) : Int) ≤ 400000) && isT (PV.agg [PV.sl (List.length (Prod.snd (Prod.fst (treeV n l 0)))) (encN (Prod.snd (Prod.fst (treeV n l 0))))]) && holds (List.length (asT (PV.agg [PV.sl (List.length (Prod.snd (Prod.fst (treeV n l 0)))) (encN (Prod.snd (Prod.fst (treeV n l 0))))])) ≤ 200 ∧ few (asT (PV.agg [PV.sl (List.length (Prod.snd (Prod.fst (treeV n l 0)))) (encN (Prod.snd (Prod.fst (treeV n l 0))))]))))
        (some ((IV.tup [IV.agg [CV.lst 3 33 (List.length (Prod.snd (Prod.fst (treeV n l 0)))) (encN (Prod.snd (Prod.fst (treeV n l 0)))) false], IV.cv (CV.pv (PV.str (Prod.fst (Prod.fst (whereV (asT (PV.agg [PV.sl (List.length (Prod.snd (Prod.fst (treeV n l 0)))) (encN (Prod.snd (Prod.fst (treeV n l 0))))])) n l (Int.toNat (↑(Prod.snd (treeV n l 0)) : Int))))))), IV.cv (CV.lst 1 9 (List.length (Prod.snd (Prod.fst (whereV (asT (PV.agg [PV.sl (List.length (Prod.snd (Prod.fst (treeV n l 0)))) (encN (Prod.snd (Prod.fst (treeV n l 0))))])) n l (Int.toNat (↑(Prod.snd (treeV n l 0)) : Int)))))) (List.map PV.str (Prod.snd (Prod.fst (whereV (asT (PV.agg [PV.sl (List.length (Prod.snd (Prod.fst (treeV n l 0)))) (encN (Prod.snd (Prod.fst (treeV n l 0))))])) n l (Int.toNat (↑(Prod.snd (treeV n l 0)) : Int)))))) false), IV.cv (CV.pv (PV.str (Prod.fst (Prod.fst (whereV (asT (PV.agg [PV.sl (List.length (Prod.snd (Prod.fst (treeV n l 0)))) (encN (Prod.snd (Prod.fst (treeV n l 0))))])) n l (Int.toNat (↑(Prod.snd (whereV (asT (PV.agg [PV.sl (List.length (Prod.snd (Prod.fst (treeV n l 0)))) (encN (Prod.snd (Prod.fst (treeV n l 0))))])) n l (Int.toNat (↑(Prod.snd (treeV n l 0)) : Int)))) : Int))))))), IV.cv (CV.lst 1 9 (List.length (Prod.snd (Prod.fst (whereV (asT (PV.agg [PV.sl (List.length (Prod.snd (Prod.fst (treeV n l 0)))) (encN (Prod.snd (Prod.fst (treeV n l 0))))])) n l (Int.toNat (↑(Prod.snd (whereV (asT (PV.agg [PV.sl (List.length (Prod.snd (Prod.fst (treeV n l 0)))) (encN (Prod.snd (Prod.fst (treeV n l 0))))])) n l (Int.toNat (↑(Prod.snd (treeV n l 0)) : Int)))) : Int)))))) (List.map PV.str (Prod.snd (Prod.fst (whereV (asT (PV.agg [PV.sl (List.length (Prod.snd (Prod.fst (treeV n l 0)))) (encN (Prod.snd (Prod.fst (treeV n l 0))))])) n l (Int.toNat (↑(Prod.snd (whereV (asT (PV.agg [PV.sl (List.length (Prod.snd (Prod.fst (treeV n l 0)))) (encN (Prod.snd (Prod.fst (treeV n l 0))))])) n l (Int.toNat (↑(Prod.snd (treeV n l 0)) : Int)))) : Int)))))) false)], [])))
        (none))
      (none))
    (none)) := by kernel_rfl
theorem r_con32_eq (z : PV) (xs : List ByteArray) (ys : List ByteArray) (c : Int) : r_con32 brC z xs ys c =
 some (Sum.inr (Ex.exit 0, [(AV.pv z, none), (AV.pv (PV.int IntKind.i64 c), none)])) := by kernel_rfl
theorem r_con112_eq (xs : List ByteArray) (ys : List ByteArray) (zs : List ByteArray) : r_con112 brC xs ys zs =
 some (Sum.inr (Ex.exit 2, [(AV.own 24576, some (Ob.lst 1 9 (List.length zs) (List.map PV.str zs) false))])) := by kernel_rfl
theorem q_merge0_eq (s : ByteArray) (ss : List ByteArray) (f : ByteArray) (fs : List ByteArray) : q_merge0 brC s ss f fs =
 brC (ByteArray.toList s == ByteArray.toList f)
  (brC (isL (PV.sl (List.length ss) (List.map PV.str ss)) && isL (PV.sl (List.length fs) (List.map PV.str fs)))
    (brC (begX (asL (PV.sl (List.length ss) (List.map PV.str ss))) (asL (PV.sl (List.length fs) (List.map PV.str fs))))
      (some ((IV.cv (CV.pv (PV.int IntKind.i64 (Int.ofNat 5))), [[CV.pv PV.nils]])))
      (brC (isL (PV.sl (List.length fs) (List.map PV.str fs)) && isL (PV.sl (List.length ss) (List.map PV.str ss)))
        (brC (begX (asL (PV.sl (List.length fs) (List.map PV.str fs))) (asL (PV.sl (List.length ss) (List.map PV.str ss))))
          (some ((IV.cv (CV.pv (PV.int IntKind.i64 (Int.ofNat 5))), [[CV.pv PV.nils]])))
          (brC (isT (PV.agg [PV.sl 0 []]) && holds (asT (PV.agg [PV.sl 0 []]) = []))
            (some ((IV.cv (CV.pv (PV.int IntKind.i64 (Int.ofNat 0))), [[CV.pv PV.nils]])))
            (none)))
        (none)))
    (none))
  (brC (isT (PV.agg [PV.sl 0 []]) && holds (asT (PV.agg [PV.sl 0 []]) = []))
    (some ((IV.cv (CV.pv (PV.int IntKind.i64 (Int.ofNat 0))), [[CV.pv PV.nils]])))
    (none)) := by kernel_rfl
theorem q_merge_eq (t : List NodeT) (s : ByteArray) (ss : List ByteArray) (f : ByteArray) (fs : List ByteArray) : q_merge brC t s ss f fs =
 brC (ByteArray.toList s == ByteArray.toList f)
  (brC (isL (PV.sl (List.length ss) (List.map PV.str ss)) && isL (PV.sl (List.length fs) (List.map PV.str fs)))
    (brC (begX (asL (PV.sl (List.length ss) (List.map PV.str ss))) (asL (PV.sl (List.length fs) (List.map PV.str fs))))
      (some ((IV.cv (CV.pv (PV.int IntKind.i64 (Int.ofNat 5))), [[CV.lst 3 33 (List.length t) (encN t) true]])))
      (brC (isL (PV.sl (List.length fs) (List.map PV.str fs)) && isL (PV.sl (List.length ss) (List.map PV.str ss)))
        (brC (begX (asL (PV.sl (List.length fs) (List.map PV.str fs))) (asL (PV.sl (List.length ss) (List.map PV.str ss))))
          (some ((IV.cv (CV.pv (PV.int IntKind.i64 (Int.ofNat 5))), [[CV.lst 3 33 (List.length t) (encN t) true]])))
          (brC (isNs (PV.sl (List.length t) (encN t)) && Nat.beq 33 33)
            (brC (isNs (PV.sl (List.length t) (encN t)) && Nat.beq 33 33 && isL (pL ss) && isL (pL fs) && isNs (pNs (asNs (PV.sl (List.length t) (encN t)))) && (↑(List.length (asNs (PV.sl (List.length t) (encN t)))) : Int) == (↑(List.length (asNs (pNs (asNs (PV.sl (List.length t) (encN t)))))) : Int) && 0 == 0 && placeB s (asL (pL ss)) && treeB (asNs (PV.sl (List.length t) (encN t))) && treeB (asNs (pNs (asNs (PV.sl (List.length t) (encN t))))) && holds (Prod.snd (mergeL s (asL (pL ss)) f (asL (pL fs)) (asNs (pNs (asNs (PV.sl (List.length t) (encN t))))) (asNs (PV.sl (List.length t) (encN t)))) = 0))
              (some ((IV.cv (CV.pv (PV.int IntKind.i64 (Int.ofNat 0))), [[CV.lst 3 33 (List.length (Prod.fst (mergeL s (asL (pL ss)) f (asL (pL fs)) (asNs (pNs (asNs (PV.sl (List.length t) (encN t))))) (asNs (PV.sl (List.length t) (encN t)))))) (encN (Prod.fst (mergeL s (asL (pL ss)) f (asL (pL fs)) (asNs (pNs (asNs (PV.sl (List.length t) (encN t))))) (asNs (PV.sl (List.length t) (encN t)))))) true]])))
              (brC (isNs (PV.sl (List.length t) (encN t)) && Nat.beq 33 33 && isL (pL ss) && isL (pL fs) && isNs (pNs (asNs (PV.sl (List.length t) (encN t)))) && (↑(List.length (asNs (PV.sl (List.length t) (encN t)))) : Int) == (↑(List.length (asNs (pNs (asNs (PV.sl (List.length t) (encN t)))))) : Int) && 0 == 0 && placeB s (asL (pL ss)) && treeB (asNs (PV.sl (List.length t) (encN t))) && treeB (asNs (pNs (asNs (PV.sl (List.length t) (encN t))))))
                (some ((IV.cv (CV.pv (PV.int IntKind.i64 (Prod.snd (mergeL s (asL (pL ss)) f (asL (pL fs)) (asNs (pNs (asNs (PV.sl (List.length t) (encN t))))) (asNs (PV.sl (List.length t) (encN t))))))), [[CV.lst 3 33 (List.length (Prod.fst (mergeL s (asL (pL ss)) f (asL (pL fs)) (asNs (pNs (asNs (PV.sl (List.length t) (encN t))))) (asNs (PV.sl (List.length t) (encN t)))))) (encN (Prod.fst (mergeL s (asL (pL ss)) f (asL (pL fs)) (asNs (pNs (asNs (PV.sl (List.length t) (encN t))))) (asNs (PV.sl (List.length t) (encN t)))))) true]])))
                (none)))
            (none)))
        (none)))
    (none))
  (brC (isNs (PV.sl (List.length t) (encN t)) && Nat.beq 33 33)
    (brC (isNs (PV.sl (List.length t) (encN t)) && Nat.beq 33 33 && isL (pL ss) && isL (pL fs) && isNs (pNs (asNs (PV.sl (List.length t) (encN t)))) && (↑(List.length (asNs (PV.sl (List.length t) (encN t)))) : Int) == (↑(List.length (asNs (pNs (asNs (PV.sl (List.length t) (encN t)))))) : Int) && 0 == 0 && placeB s (asL (pL ss)) && treeB (asNs (PV.sl (List.length t) (encN t))) && treeB (asNs (pNs (asNs (PV.sl (List.length t) (encN t))))) && holds (Prod.snd (mergeL s (asL (pL ss)) f (asL (pL fs)) (asNs (pNs (asNs (PV.sl (List.length t) (encN t))))) (asNs (PV.sl (List.length t) (encN t)))) = 0))
      (some ((IV.cv (CV.pv (PV.int IntKind.i64 (Int.ofNat 0))), [[CV.lst 3 33 (List.length (Prod.fst (mergeL s (asL (pL ss)) f (asL (pL fs)) (asNs (pNs (asNs (PV.sl (List.length t) (encN t))))) (asNs (PV.sl (List.length t) (encN t)))))) (encN (Prod.fst (mergeL s (asL (pL ss)) f (asL (pL fs)) (asNs (pNs (asNs (PV.sl (List.length t) (encN t))))) (asNs (PV.sl (List.length t) (encN t)))))) true]])))
      (brC (isNs (PV.sl (List.length t) (encN t)) && Nat.beq 33 33 && isL (pL ss) && isL (pL fs) && isNs (pNs (asNs (PV.sl (List.length t) (encN t)))) && (↑(List.length (asNs (PV.sl (List.length t) (encN t)))) : Int) == (↑(List.length (asNs (pNs (asNs (PV.sl (List.length t) (encN t)))))) : Int) && 0 == 0 && placeB s (asL (pL ss)) && treeB (asNs (PV.sl (List.length t) (encN t))) && treeB (asNs (pNs (asNs (PV.sl (List.length t) (encN t))))))
        (some ((IV.cv (CV.pv (PV.int IntKind.i64 (Prod.snd (mergeL s (asL (pL ss)) f (asL (pL fs)) (asNs (pNs (asNs (PV.sl (List.length t) (encN t))))) (asNs (PV.sl (List.length t) (encN t))))))), [[CV.lst 3 33 (List.length (Prod.fst (mergeL s (asL (pL ss)) f (asL (pL fs)) (asNs (pNs (asNs (PV.sl (List.length t) (encN t))))) (asNs (PV.sl (List.length t) (encN t)))))) (encN (Prod.fst (mergeL s (asL (pL ss)) f (asL (pL fs)) (asNs (pNs (asNs (PV.sl (List.length t) (encN t))))) (asNs (PV.sl (List.length t) (encN t)))))) true]])))
        (none)))
    (none)) := by kernel_rfl
theorem r_con31_eq (z : PV) (xs : List ByteArray) (ys : List ByteArray) (c : Int) : r_con31 brC z xs ys c =
 brC (decide (IntKind.wrap IntKind.i64 (c + (↑(PV.slN (List.headD [pL ys] PV.nilp)) : Int)) < 0))
  (none)
  (some (Sum.inl [(AV.pv z, none), (AV.pv (PV.int IntKind.i64 (IntKind.wrap IntKind.i64 (c + (↑(PV.slN (List.headD [pL ys] PV.nilp)) : Int)))), none), (AV.pv (PV.sl 2 [PV.sl (List.length xs) (List.map PV.str xs), PV.sl (List.length ys) (List.map PV.str ys)]), none), (AV.pv (PV.int IntKind.i64 (Int.ofNat 2)), none), (AV.pv (PV.int IntKind.i64 (Int.ofNat 2)), none)])) := by kernel_rfl
theorem r_con30_eq (z : PV) (xs : List ByteArray) (ys : List ByteArray) (c : Int) : r_con30 brC z xs ys c =
 brC (decide (IntKind.wrap IntKind.i64 (c + (↑(PV.slN (List.headD [pL xs, pL ys] PV.nilp)) : Int)) < 0))
  (none)
  (some (Sum.inl [(AV.pv z, none), (AV.pv (PV.int IntKind.i64 (IntKind.wrap IntKind.i64 (c + (↑(PV.slN (List.headD [pL xs, pL ys] PV.nilp)) : Int)))), none), (AV.pv (PV.sl 2 [PV.sl (List.length xs) (List.map PV.str xs), PV.sl (List.length ys) (List.map PV.str ys)]), none), (AV.pv (PV.int IntKind.i64 (Int.ofNat 2)), none), (AV.pv (PV.int IntKind.i64 (Int.ofNat 1)), none)])) := by kernel_rfl
theorem q_MergeNode_eq (t : List NodeT) (s : ByteArray) (ss : List ByteArray) (f : ByteArray) (fs : List ByteArray) : q_MergeNode brC t s ss f fs =
 brC (isT (PV.agg [PV.sl (List.length t) (encN t)]))
  (brC (!treeB (asT (PV.agg [PV.sl (List.length t) (encN t)])))
    (some ((IV.tup [IV.agg [CV.pv PV.nils], IV.cv (CV.pv (PV.int IntKind.i64 (Int.ofNat 1)))], [])))
    (brC (decide (ByteArray.size s ≤ 1000000) && isL (PV.sl (List.length ss) (List.map PV.str ss)))
      (brC (!placeB s (asL (PV.sl (List.length ss) (List.map PV.str ss))))
        (some ((IV.tup [IV.agg [CV.pv PV.nils], IV.cv (CV.pv (PV.int IntKind.i64 (Int.ofNat 1)))], [])))
        (brC (decide (ByteArray.size f ≤ 1000000) && isL (PV.sl (List.length fs) (List.map PV.str fs)))
          (brC (!placeB f (asL (PV.sl (List.length fs) (List.map PV.str fs))))
            (some ((IV.tup [IV.agg [CV.pv PV.nils], IV.cv (CV.pv (PV.int IntKind.i64 (Int.ofNat 1)))], [])))
            (brC (isT (PV.agg [PV.sl (List.length t) (encN t)]) && holds (asT (PV.agg [PV.sl (List.length t) (encN t)]) = []))
              (brC (isL (PV.sl (List.length ss) (List.map PV.str ss)) && isL (PV.sl (List.length fs) (List.map PV.str fs)) && lapB s (asL (PV.sl (List.length ss) (List.map PV.str ss))) f (asL (PV.sl (List.length fs) (List.map PV.str fs))))
                (some ((IV.tup [IV.agg [CV.pv PV.nils], IV.cv (CV.pv (PV.int IntKind.i64 (Int.ofNat 5)))], [])))
                (brC (isL (PV.sl (List.length ss) (List.map PV.str ss)) && isL (PV.sl (List.length fs) (List.map PV.str fs)))
                  (some ((IV.tup [IV.agg [CV.pv PV.nils], IV.cv (CV.pv (PV.int IntKind.i64 (Int.ofNat 0)))], [])))
                  (none)))
              (brC (isT (PV.agg [PV.sl (List.length t) (encN t)]))
                (brC (isNs (PV.sl (List.length (asT (PV.agg [PV.sl (List.length t) (encN t)]))) (encN (asT (PV.agg [PV.sl (List.length t) (encN t)])))) && Nat.beq 33 33 && isL (PV.sl (List.length ss) (List.map PV.str ss)) && isL (PV.sl (List.length fs) (List.map PV.str fs)) && placeB s (asL (PV.sl (List.length ss) (List.map PV.str ss))) && treeB (asNs (PV.sl (List.length (asT (PV.agg [PV.sl (List.length t) (encN t)]))) (encN (asT (PV.agg [PV.sl (List.length t) (encN t)]))))) && lapB s (asL (PV.sl (List.length ss) (List.map PV.str ss))) f (asL (PV.sl (List.length fs) (List.map PV.str fs))))
                  (some ((IV.tup [IV.agg [CV.pv PV.nils], IV.cv (CV.pv (PV.int IntKind.i64 (Int.ofNat 5)))], [])))
                  (brC (isNs (PV.sl (List.length (asT (PV.agg [PV.sl (List.length t) (encN t)]))) (encN (asT (PV.agg [PV.sl (List.length t) (encN t)])))) && Nat.beq 33 33 && isL (PV.sl (List.length ss) (List.map PV.str ss)) && isL (PV.sl (List.length fs) (List.map PV.str fs)) && placeB s (asL (PV.sl (List.length ss) (List.map PV.str ss))) && treeB (asNs (PV.sl (List.length (asT (PV.agg [PV.sl (List.length t) (encN t)]))) (encN (asT (PV.agg [PV.sl (List.length t) (encN t)]))))))
                    (brC (Prod.snd (mergeL s (asL (PV.sl (List.length ss) (List.map PV.str ss))) f (asL (PV.sl (List.length fs) (List.map PV.str fs))) (asNs (PV.sl (List.length (asT (PV.agg [PV.sl (List.length t) (encN t)]))) (encN (asT (PV.agg [PV.sl (List.length t) (encN t)]))))) (asNs (PV.sl (List.length (asT (PV.agg [PV.sl (List.length t) (encN t)]))) (encN (asT (PV.agg [PV.sl (List.length t) (encN t)])))))) != 0)
                      (some ((IV.tup [IV.agg [CV.pv PV.nils], IV.cv (CV.pv (PV.int IntKind.i64 (Prod.snd (mergeL s (asL (PV.sl (List.length ss) (List.map PV.str ss))) f (asL (PV.sl (List.length fs) (List.map PV.str fs))) (asNs (PV.sl (List.length (asT (PV.agg [PV.sl (List.length t) (encN t)]))) (encN (asT (PV.agg [PV.sl (List.length t) (encN t)]))))) (asNs (PV.sl (List.length (asT (PV.agg [PV.sl (List.length t) (encN t)]))) (encN (asT (PV.agg [PV.sl (List.length t) (encN t)])))))))))], [])))
                      (some ((IV.tup [IV.agg [CV.lst 3 33 (List.length (Prod.fst (mergeL s (asL (PV.sl (List.length ss) (List.map PV.str ss))) f (asL (PV.sl (List.length fs) (List.map PV.str fs))) (asNs (PV.sl (List.length (asT (PV.agg [PV.sl (List.length t) (encN t)]))) (encN (asT (PV.agg [PV.sl (List.length t) (encN t)]))))) (asNs (PV.sl (List.length (asT (PV.agg [PV.sl (List.length t) (encN t)]))) (encN (asT (PV.agg [PV.sl (List.length t) (encN t)])))))))) (encN (Prod.fst (mergeL s (asL (PV.sl (List.length ss) (List.map PV.str ss))) f (asL (PV.sl (List.length fs) (List.map PV.str fs))) (asNs (PV.sl (List.length (asT (PV.agg [PV.sl (List.length t) (encN t)]))) (encN (asT (PV.agg [PV.sl (List.length t) (encN t)]))))) (asNs (PV.sl (List.length (asT (PV.agg [PV.sl (List.length t) (encN t)]))) (encN (asT (PV.agg [PV.sl (List.length t) (encN t)])))))))) true], IV.cv (CV.pv (PV.int IntKind.i64 (Int.ofNat 0)))], []))))
                    (none)))
                (none))))
          (none)))
      (none)))
  (none) := by kernel_rfl
end

section
open Go.RowKit
set_option linter.unusedVariables false
set_option linter.unusedSimpArgs false
set_option maxRecDepth 100000

theorem cpL_loop (t : List NodeT) (h : shT t) : ∀ (m i : Nat), m + i = t.length → LoopsTo (rdB brC Tryz.prog iba6 lp_cpL LO_cpL Tryz.f26 3 [0]) [kL t, aBx 2 [.pv .nils], aBx 3 [if i = 0 then .pv .nils else lN (t.take i)], ((.own 0, none) : AV × Option Ob), aI t.length, aI i]
    (.exit 0, [kL t, aBx 2 [.pv .nils], aBx 3 [if t.length = 0 then .pv .nils else lN t]]) := by
  have hl := h.1
  intro m
  induction m with
  | zero =>
    intro i hm
    obtain rfl : i = t.length := by omega
    by_cases h0 : t.length = 0
    · rw [if_pos h0, if_pos h0]
      refine .done _ _ ((r_cpL0_eq t t.length).trans ?_)
      rw [dF (by omega)]
      rfl
    · rw [if_neg h0, if_neg h0, List.take_length]
      refine .done _ _ ((r_cpL_eq t t t.length).trans ?_)
      rw [dF (by omega)]
      rfl
  | succ m ih =>
    intro i hm
    have hi : i < t.length := by omega
    have hs := shN_at h hi
    have ih' := ih (i + 1) (by omega)
    have b3 : ∀ (x y z : PV), Nat.beq (List.length [x, y, z]) (1 * 3) = true := fun _ _ _ => rfl
    have b0 : Nat.ble (i * 3) (encN t).length = true := Nat.ble_eq_true_of_le (by rw [encN_len]; omega)
    rw [if_neg (by omega), List.take_succ_eq_append_getElem hi] at ih'
    by_cases h0 : i = 0
    · subst h0
      have tree := r_cpL0_eq t (0 : Nat)
      simp (disch := omega) only [dT, b3, b0, Int.toNat_natCast, drop_encN t 0 hi, List.length_cons, List.headD_cons, List.tail_cons, PV.isStr, PV.asStr, PV.isSl, PV.slN, PV.slL, ble3, wrap1, Bool.and_true, Bool.true_and, isN_mk hs, asN_mk] at tree
      exact .step _ _ _ tree ih'
    · rw [if_neg h0]
      have htl : (t.take i).length ≤ 100000 := by rw [List.length_take]; omega
      have tree := r_cpL_eq t (t.take i) i
      simp (disch := omega) only [dT, b3, b0, Int.toNat_natCast, drop_encN t i hi, List.length_cons, List.headD_cons, List.tail_cons, PV.isStr, PV.asStr, PV.isSl, PV.slN, PV.slL, ble3, wrap1, Bool.and_true, Bool.true_and, isN_mk hs, asN_mk] at tree
      have e1 : (t.take i ++ [t[i]]).length = (t.take i).length + 1 := by rw [List.length_append, List.length_singleton]
      have e2 : encN (t.take i ++ [t[i]]) = encN (t.take i) ++ [.str t[i].name, .sl t[i].subs.length (t[i].subs.map PV.str), .str t[i].value] := by rw [encN_app]; rfl
      unfold lN at ih'
      rw [e1, e2] at ih'
      exact .step _ _ _ tree ih'
theorem loops_cpL : ∀ b ∈ loopsIn (bodyOf Tryz.f26), LoopOk Tryz.prog (tabL iba6) (OL lp_cpL) Tryz.f26.ntmps (pbOf [0]) LO_cpL b := by
  refine oneLoop 3 (by kernel_rfl) (by kernel_rfl) (by kernel_rfl) ?_
  intro ls e ls' hl
  unfold LO_cpL at hl
  split at hl
  · rename_i e' n l x y z m i
    cases hg : (isNs (.sl n l) && Nat.beq e' 33 && Nat.beq x 8192 && Nat.beq y 12288 && Nat.beq z 0 && (m == ((asNs (.sl n l)).length : Int)) && (i == 0)) with
    | false => rw [hg] at hl; simp only [pickA, Bool.false_and, cond_false] at hl; cases hl
    | true =>
      rw [hg, Bool.true_and] at hl
      simp only [Bool.and_eq_true, beq_iff_eq] at hg
      obtain ⟨⟨⟨⟨⟨⟨g1, g2⟩, g3⟩, g4⟩, g5⟩, g6⟩, g7⟩ := hg
      obtain ⟨u, hu0, hu⟩ := isE_inv g1
      injection hu0 with hn hl'
      subst hn hl'
      have e2 : asNs (.sl u.length (encN u)) = u := asNs_mk u
      simp only [e2] at hl g6
      rw [Nat.eq_of_beq_eq_true g2, Nat.eq_of_beq_eq_true g3, Nat.eq_of_beq_eq_true g4, Nat.eq_of_beq_eq_true g5, g6, g7]
      have := cpL_loop u hu u.length 0 (by omega)
      rw [if_pos rfl] at this
      by_cases hn : u = []
      · rw [holds_mk hn] at hl
        cases hl
        rw [if_pos (by rw [hn]; rfl)] at this
        exact this
      · have hf : holds (u = []) = false := by
          cases hh : holds (u = []) with
          | false => rfl
          | true => exact absurd (holds_inv hh) hn
        rw [hf] at hl
        cases hl
        rw [if_neg (fun e => hn (List.length_eq_zero_iff.1 e))] at this
        exact this
  · cases hl
theorem ok_cpL : EntryOk Tryz.prog 26 E_cpL := ⟨ok_copyTree.1, fun ivs res bxs h => by
  unfold E_cpL at h
  split at h
  · rename_i e n l
    obtain ⟨hc, he⟩ := pick1 h
    cases he
    rw [Bool.and_eq_true] at hc
    obtain ⟨t, hu0, ht⟩ := isE_inv hc.1
    injection hu0 with hn hl'
    subst hn hl'
    have e2 : asNs (.sl t.length (encN t)) = t := asNs_mk t
    have i2 := isNs_mk ht
    rw [Nat.eq_of_beq_eq_true hc.2, e2]
    have tree := q_cpL_eq t
    simp only [isNs, i2, asNs_mk, beq_self_eq_true, Nat.beq_refl, Bool.and_true, Bool.true_and] at tree
    cases hh : holds (t = []) with
    | true =>
      rw [hh] at tree
      have h0 := holds_inv hh
      subst h0
      exact (fun_okB mix (tabL_ok ok_iba6) ⟨Tryz.func26, by kernel_rfl, by kernel_rfl⟩ (by kernel_rfl) rfl loops_cpL tree).frzM rfl
    | false =>
      rw [hh] at tree
      exact (fun_okB mix (tabL_ok ok_iba6) ⟨Tryz.func26, by kernel_rfl, by kernel_rfl⟩ (by kernel_rfl) rfl loops_cpL tree).frzM rfl
  · rename_i p
    obtain ⟨hc, he⟩ := pick1 h
    cases he
    refine (ok_copyTree.2 [.cv (.pv p)] (.agg [.pv .nils]) [] ?_).frzM rfl
    show pickA [(isT p && holds (asT p = []), IV.agg [CV.pv .nils], []), (isT p, .agg [lN (asT p)], [])] = _
    rw [hc]
    rfl
  · cases h⟩
theorem ok_mgb0 : EntriesOk Tryz.prog mgb0 := ⟨ok_GrowS, trivial⟩
theorem con3 (z : PV) (xs ys : List ByteArray) (hx : shL xs) (hy : shL ys) : LoopsTo (rdB brC Tryz.prog mgb0 lp_con LO_con Tryz.f68 3 []) [aP z, aI 0, aP (pp xs ys), aI 2, aI 0] (.exit 0, [aP z, aI (xs.length + ys.length)]) := by
  have h1 := hx.1
  have h2 := hy.1
  have w1 : IntKind.wrap .i64 (0 + (xs.length : Int)) = (xs.length : Int) := by rw [wrapI (by omega) (by omega)]; omega
  have w2 : IntKind.wrap .i64 ((xs.length : Int) + (ys.length : Int)) = (xs.length : Int) + (ys.length : Int) := wrapI (by omega) (by omega)
  have t0 := r_con30_eq z xs ys 0
  have t1 := r_con31_eq z xs ys xs.length
  simp only [List.headD_cons, pL, PV.slN, w1] at t0
  simp only [List.headD_cons, pL, PV.slN, w2] at t1
  rw [dF (by omega)] at t0 t1
  exact .step _ _ _ t0 (.step _ _ _ t1 (.done _ _ (r_con32_eq z xs ys _)))
theorem con11 (xs ys : List ByteArray) (hx : shL xs) (hy : shL ys) : LoopsTo (rdB brC Tryz.prog mgb0 lp_con LO_con Tryz.f68 11 []) [((.own 24576, some (.lst 1 9 0 [] false)) : AV × Option Ob), aP (pp xs ys), aI 2, aI 0] (.exit 2, [oS 6 (xs ++ ys)]) := by
  have h1 := hx.1
  have h2 := hy.1
  have t0 := r_con110_eq xs ys
  have b1 : Nat.beq (xs.map PV.str).length (xs.length * 1) = true := by rw [List.length_map, Nat.mul_one]; exact Nat.beq_refl _
  have b2 : Nat.beq (ys.map PV.str).length (ys.length * 1) = true := by rw [List.length_map, Nat.mul_one]; exact Nat.beq_refl _
  simp (disch := omega) only [List.headD_cons, pL, PV.slN, PV.slL, b1, dT, Nat.zero_add, List.nil_append, Bool.and_true, Bool.true_and] at t0
  have t1 : r_con111 brC xs ys xs = brC (Nat.beq (ys.map PV.str).length (ys.length * 1) && (decide (xs.length + ys.length ≤ 140737488351232) && decide ((xs.length + ys.length) * 16 ≤ 140737488355328))) (some (Sum.inl [((.own 24576, some (.lst 1 9 (xs.length + ys.length) (xs.map PV.str ++ ys.map PV.str) false)) : AV × Option Ob), aP (pp xs ys), aI 2, aI 2])) none := r_con111_eq xs ys xs
  rw [b2, dT (show xs.length + ys.length ≤ 140737488351232 by omega), dT (show (xs.length + ys.length) * 16 ≤ 140737488355328 by omega)] at t1
  rw [show xs.length + ys.length = (xs ++ ys).length by rw [List.length_append], show xs.map PV.str ++ ys.map PV.str = (xs ++ ys).map PV.str by rw [List.map_append]] at t1
  exact .step _ _ _ t0 (.step _ _ _ t1 (.done _ _ (r_con112_eq xs ys _)))
theorem con3_in : ∀ ls e ls', pickA (LO_con 3 ls) = some (e, ls') → LoopsTo (rdB brC Tryz.prog mgb0 lp_con LO_con Tryz.f68 3 []) ls (e, ls') := fun ls e ls' hl => by
  unfold LO_con at hl
  split at hl
  · split at hl
    · rename_i z c p q n i
      obtain ⟨hc, he⟩ := pick1 hl
      cases he
      simp only [Bool.and_eq_true, beq_iff_eq] at hc
      obtain ⟨⟨⟨⟨k0, k1⟩, k2⟩, k3⟩, k4⟩ := hc
      obtain ⟨xs, rfl, hx⟩ := isL_inv k0
      obtain ⟨ys, rfl, hy⟩ := isL_inv k1
      have e1 : asL (pL xs) = xs := asL_mk xs
      have e2 : asL (pL ys) = ys := asL_mk ys
      subst k2 k3 k4
      rw [e1, e2]
      exact con3 z xs ys hx hy
    · cases hl
  · rename_i hh; cases hh
  · cases hl
theorem con11_in : ∀ ls e ls', pickA (LO_con 11 ls) = some (e, ls') → LoopsTo (rdB brC Tryz.prog mgb0 lp_con LO_con Tryz.f68 11 []) ls (e, ls') := fun ls e ls' hl => by
  unfold LO_con at hl
  split at hl
  · rename_i hh; cases hh
  · split at hl
    · rename_i x e' n l p q m i
      obtain ⟨hc, he⟩ := pick1 hl
      cases he
      simp only [Bool.and_eq_true, beq_iff_eq] at hc
      obtain ⟨⟨⟨⟨⟨⟨⟨k0, k1⟩, k2⟩, k3⟩, k4⟩, k5⟩, k6⟩, k7⟩ := hc
      obtain ⟨xs, rfl, hx⟩ := isL_inv k0
      obtain ⟨ys, rfl, hy⟩ := isL_inv k1
      have e1 : asL (pL xs) = xs := asL_mk xs
      have e2 : asL (pL ys) = ys := asL_mk ys
      obtain rfl := Nat.eq_of_beq_eq_true k2
      obtain rfl := Nat.eq_of_beq_eq_true k3
      obtain rfl := Nat.eq_of_beq_eq_true k4
      obtain rfl := nilB_inv k5
      subst k6 k7
      rw [e1, e2]
      exact con11 xs ys hx hy
    · cases hl
  · cases hl
theorem ok_con : EntryOk Tryz.prog 68 E_con := entry_ofM mix ok_mgb0 (lp := lp_con) (LO := LO_con) ⟨Tryz.func68, by kernel_rfl, by kernel_rfl⟩ (by kernel_rfl) fun ivs res bxs h => by
  unfold E_con at h
  split at h
  · rename_i p q
    obtain ⟨hc, he⟩ := pick1 h
    cases he
    simp only [Bool.and_eq_true, decide_eq_true_eq] at hc
    obtain ⟨⟨k0, k1⟩, k2⟩ := hc
    obtain ⟨xs, rfl, hx⟩ := isL_inv k0
    obtain ⟨ys, rfl, hy⟩ := isL_inv k1
    have e1 : asL (pL xs) = xs := asL_mk xs
    have e2 : asL (pL ys) = ys := asL_mk ys
    have i1 : isL (pL xs) = true := isL_mk hx
    have i2 : isL (pL ys) = true := isL_mk hy
    rw [e1, e2] at k2 ⊢
    refine ⟨manyLoops [3, 11] (by kernel_rfl) (fun k hk => by
      rcases List.mem_cons.1 hk with rfl | hk
      · kernel_rfl
      · rw [List.mem_singleton.1 hk]; kernel_rfl) (fun k hk => by
      rcases List.mem_cons.1 hk with rfl | hk
      · exact ⟨noLoop (by kernel_rfl), con3_in⟩
      · rw [List.mem_singleton.1 hk]; exact ⟨noLoop (by kernel_rfl), con11_in⟩), ?_⟩
    have tree := q_con_eq xs ys
    simp (disch := omega) only [i1, i2, e1, e2, nilB, holds_true, dT, beq_self_eq_true, Nat.beq_refl, Bool.and_true, Bool.true_and] at tree
    exact ⟨.cv (.lst 1 9 (xs ++ ys).length ((xs ++ ys).map .str) false), tree, rfl, rfl⟩
  · cases h
theorem ok_mgb1 : EntriesOk Tryz.prog mgb1 := ⟨ok_cpL, ok_con, ok_ibc1⟩
theorem subsB_len {xs : List ByteArray} (h : subsB xs = true) : xs.length ≤ 4 := by
  unfold subsB at h
  rw [Bool.and_eq_true, decide_eq_true_eq] at h
  exact h.1
theorem inX_le4 {x : NodeT} {f : ByteArray} {fs : List ByteArray} (h : inX x f fs = true) : fs.length ≤ x.subs.length := by
  unfold inX begX at h
  simp only [Bool.and_eq_true, decide_eq_true_eq] at h
  exact h.2.1
theorem shL_of {xs : List ByteArray} (hl : xs.length ≤ 100000) (h : ∀ s ∈ xs, s.size ≤ 1000000) : shL xs := ⟨hl, h⟩
theorem putT_shB' {t : List NodeT} (h : shT t) (hB : treeB t = true) {s : ByteArray} {xs : List ByteArray} {v : ByteArray} (hs : s.size ≤ 1000000) (hx : shL xs) (hv : v.size ≤ 1000000) : shT (putT t s xs v) := by
  refine ⟨?_, fun x hx' => ?_⟩
  · have := (treeB_ok hB).1
    rw [putT_size]
    split <;> omega
  · unfold putT at hx'
    rcases List.mem_append.1 hx' with hx' | hx'
    · rcases List.mem_append.1 hx' with hx' | hx'
      · exact h.2 x (List.mem_of_mem_take hx')
      · rw [List.mem_singleton.1 hx']
        exact ⟨hs, hx, hv⟩
    · exact h.2 x (List.mem_of_mem_drop hx')
theorem merge_loop (s : ByteArray) (ss : List ByteArray) (f : ByteArray) (fs : List ByteArray) (hss : shL ss) (hfs : shL fs) (hP : placeB s ss = true) (r : List NodeT) (hr : shT r) (hrB : treeB r = true) : ∀ (m i : Nat) (t : List NodeT), m + i = r.length → shT t → treeB t = true →
    LoopsTo (rdB brC Tryz.prog mgb1 lp_merge LO_merge Tryz.f27 4 [0]) [aB0 [lN t], aS s, aP (pL ss), aS f, aP (pL fs), aP (pNs r), aI r.length, aI i]
      (if (mergeL s ss f fs (r.drop i) t).2 = 0 then (.exit 0, [aB0 [lN (mergeL s ss f fs (r.drop i) t).1], aX]) else (.ret, [aB0 [lN (mergeL s ss f fs (r.drop i) t).1], aI (mergeL s ss f fs (r.drop i) t).2])) := by
  have hrl := hr.1
  have hssB : subsB ss = true := by unfold placeB at hP; rw [Bool.and_eq_true] at hP; exact hP.2
  have hsz : s.size ≤ 1000000 := by
    have hN : nameB s = true := by unfold placeB at hP; rw [Bool.and_eq_true] at hP; exact hP.1
    unfold nameB at hN
    simp only [Bool.and_eq_true, decide_eq_true_eq] at hN
    omega
  have i1 := isL_mk hss
  have i2 := isL_mk hfs
  intro m
  induction m with
  | zero =>
    intro i t hm ht hB
    obtain rfl : i = r.length := by omega
    rw [List.drop_length]
    unfold mergeL
    rw [if_pos rfl]
    have tree := r_merge_eq t s ss f fs r r.length
    rw [dF (by omega)] at tree
    exact .done _ _ tree
  | succ m ih =>
    intro i t hm ht hB
    have hi : i < r.length := by omega
    have hs := shN_at hr hi
    have hnB := (treeB_ok hrB).2.1 r[i] (List.getElem_mem hi)
    rw [List.drop_eq_getElem_cons hi]
    have tree := r_merge_eq t s ss f fs r i
    have j2 := isNs_mk ht
    simp (disch := omega) only [drop_encN r i hi, isN_mk hs, asN_mk, isL, i1, i2, asL_mk, dT, Int.toNat_natCast, List.length_cons, List.headD_cons, List.tail_cons, PV.isStr, PV.asStr, PV.isSl, PV.slN, PV.slL, ble3, wrap1, Bool.and_true, Bool.true_and] at tree
    unfold mergeL
    cases hin : inX r[i] f fs with
    | false =>
      rw [hin] at tree
      rw [if_neg Bool.false_ne_true]
      exact .step _ _ _ tree (ih (i + 1) t (by omega) ht hB)
    | true =>
      rw [hin] at tree
      rw [if_pos rfl]
      have hfl := inX_le4 hin
      have hsubs : r[i].subs.length ≤ 4 := by
        unfold nodeB placeB at hnB
        simp only [Bool.and_eq_true] at hnB
        exact subsB_len hnB.1.2
      have hss4 := subsB_len hssB
      have hdl : (r[i].subs.drop fs.length).length = r[i].subs.length - fs.length := List.length_drop
      have hdsh : shL (r[i].subs.drop fs.length) := ⟨by omega, fun x hx => hs.2.1.2 x (List.mem_of_mem_drop hx)⟩
      have htosh : shL (toX ss fs r[i]) := ⟨by rw [List.length_append]; omega, fun x hx => by
        rcases List.mem_append.1 hx with hx | hx
        · exact hss.2 x hx
        · exact hdsh.2 x hx⟩
      have zD : PV.sl (r[i].subs.length - fs.length) (List.take ((r[i].subs.length - fs.length) * 1) (List.drop (fs.length * 1) (r[i].subs.map PV.str))) = PV.sl (r[i].subs.drop fs.length).length ((r[i].subs.drop fs.length).map PV.str) := by
        rw [hdl, Nat.mul_one, Nat.mul_one, ← List.map_drop, List.take_of_length_le (by rw [List.length_map, hdl]; omega)]
      have d1 : decide ((fs.length : Int) ≤ (r[i].subs.length : Int)) = true := dT (by omega)
      simp (disch := omega) only [zD, d1, isL, isL_mk hdsh, isL_mk htosh, asL_mk, isNs, j2, asNs_mk, hB, Nat.beq_refl, dT hsz, dT (show ss.length + (r[i].subs.drop fs.length).length ≤ 1000 by omega), Bool.not_true, Bool.and_true, Bool.true_and] at tree
      cases hsb : subsB (ss ++ r[i].subs.drop fs.length) with
      | false =>
        rw [hsb] at tree
        rw [if_neg Bool.false_ne_true, if_neg (show ¬ ((t, (1 : Int)).2 = 0) from fun h => by cases h)]
        exact .done _ _ tree
      | true =>
        rw [hsb] at tree
        rw [if_pos rfl]
        cases hh : (!hasAt t s (ss ++ r[i].subs.drop fs.length) && decide (t.length = 120)) with
        | true =>
          rw [hh] at tree
          rw [if_pos rfl, if_neg (show ¬ ((t, (4 : Int)).2 = 0) from fun h => by cases h)]
          exact .done _ _ tree
        | false =>
          rw [hh] at tree
          rw [if_neg Bool.false_ne_true]
          have hv : r[i].value.size ≤ 64 := by
            unfold nodeB at hnB
            simp only [Bool.and_eq_true, decide_eq_true_eq] at hnB
            exact hnB.2
          have hPt : placeB s (toX ss fs r[i]) = true := by
            unfold placeB at hP ⊢
            rw [Bool.and_eq_true] at hP ⊢
            exact ⟨hP.1, hsb⟩
          have hroom : hasAt t s (toX ss fs r[i]) = true ∨ t.length < 120 := by
            have hle := (treeB_ok hB).1
            cases hx : hasAt t s (toX ss fs r[i]) with
            | true => exact .inl rfl
            | false =>
              right
              rw [show hasAt t s (ss ++ r[i].subs.drop fs.length) = false from hx, Bool.not_false, Bool.true_and, decide_eq_false_iff_not] at hh
              omega
          exact .step _ _ _ tree (ih (i + 1) (putT t s (toX ss fs r[i]) r[i].value) (by omega) (putT_shB' ht hB hsz htosh hs.2.2) (putT_B hB hPt hv hroom))
theorem loops_merge : ∀ b ∈ loopsIn (bodyOf Tryz.f27), LoopOk Tryz.prog (tabL mgb1) (OL lp_merge) Tryz.f27.ntmps (pbOf [0]) LO_merge b := by
  refine oneLoop 4 (by kernel_rfl) (by kernel_rfl) (by kernel_rfl) ?_
  intro ls e ls' hl
  unfold LO_merge at hl
  split at hl
  · rename_i e' n l s p f q r m i
    cases hg : (isNs (.sl n l) && Nat.beq e' 33 && isL p && isL q && isNs r && (m == ((asNs r).length : Int)) && (i == 0) && placeB s (asL p) && treeB (asNs (.sl n l)) && treeB (asNs r)) with
    | false => rw [hg] at hl; simp only [pickA, Bool.false_and, cond_false] at hl; cases hl
    | true =>
      rw [hg, Bool.true_and] at hl
      simp only [Bool.and_eq_true, beq_iff_eq] at hg
      obtain ⟨⟨⟨⟨⟨⟨⟨⟨⟨g1, g2⟩, g3⟩, g4⟩, g5⟩, g6⟩, g7⟩, g8⟩, g9⟩, g10⟩ := hg
      obtain ⟨t, hu0, ht⟩ := isE_inv g1
      injection hu0 with hn hl'
      subst hn hl'
      obtain ⟨ss, rfl, hss⟩ := isL_inv g3
      obtain ⟨fs, rfl, hfs⟩ := isL_inv g4
      obtain ⟨rr, rfl, hr⟩ := isE_inv g5
      have e2 : asNs (.sl t.length (encN t)) = t := asNs_mk t
      have e3 : asL (pL ss) = ss := asL_mk ss
      have e4 : asL (pL fs) = fs := asL_mk fs
      have e5 : asNs (pNs rr) = rr := asNs_mk rr
      rw [e3] at g8
      rw [e2] at g9
      rw [e5] at g10 g6
      simp only [e2, e3, e4, e5] at hl
      rw [Nat.eq_of_beq_eq_true g2, g6, g7]
      have := merge_loop s ss f fs hss hfs g8 rr hr g10 rr.length 0 t (by omega) ht g9
      rw [List.drop_zero] at this
      by_cases h0 : (mergeL s ss f fs rr t).2 = 0
      · rw [holds_mk h0] at hl
        cases hl
        rw [if_pos h0] at this
        exact this
      · have hf : holds ((mergeL s ss f fs rr t).2 = 0) = false := by
          cases hh : holds ((mergeL s ss f fs rr t).2 = 0) with
          | false => rfl
          | true => exact absurd (holds_inv hh) h0
        rw [hf] at hl
        cases hl
        rw [if_neg h0] at this
        exact this
  · rename_i s p f q r m i
    obtain ⟨hc, he⟩ := pick1 hl
    cases he
    simp only [Bool.and_eq_true, beq_iff_eq] at hc
    rw [hc.1, hc.2]
    exact .done _ _ (r_merge0_eq s p f q r)
  · cases hl
theorem ok_merge : EntryOk Tryz.prog 27 E_merge := entry_of mix ok_mgb1 (lp := lp_merge) (LO := LO_merge) ⟨Tryz.func27, by kernel_rfl, by kernel_rfl⟩ (by kernel_rfl) fun ivs res bxs h => by
  unfold E_merge at h
  split at h
  · rename_i e n l s p f q
    cases hg : (isNs (.sl n l) && Nat.beq e 33 && isL p && isL q && placeB s (asL p) && treeB (asNs (.sl n l))) with
    | false => rw [hg] at h; simp only [pickA, Bool.false_and, cond_false] at h; cases h
    | true =>
      rw [hg, Bool.true_and] at h
      simp only [Bool.and_eq_true] at hg
      obtain ⟨⟨⟨⟨⟨g1, g2⟩, g3⟩, g4⟩, g5⟩, g6⟩ := hg
      obtain ⟨t, hu0, ht⟩ := isE_inv g1
      injection hu0 with hn hl'
      subst hn hl'
      obtain ⟨ss, rfl, hss⟩ := isL_inv g3
      obtain ⟨fs, rfl, hfs⟩ := isL_inv g4
      have e2 : asNs (.sl t.length (encN t)) = t := asNs_mk t
      have e5 : asNs (pNs t) = t := asNs_mk t
      have e3 : asL (pL ss) = ss := asL_mk ss
      have e4 : asL (pL fs) = fs := asL_mk fs
      rw [e3] at g5
      rw [e2] at g6
      simp only [e2, e3, e4] at h
      rw [Nat.eq_of_beq_eq_true g2]
      have i1 := isL_mk hss
      have i2 := isL_mk hfs
      have i3 := isNs_mk ht
      have tree := q_merge_eq t s ss f fs
      simp only [isL, isNs, i1, i2, i3, asL_mk, asNs_mk, g5, g6, beq_self_eq_true, Nat.beq_refl, Bool.and_true, Bool.true_and] at tree
      refine ⟨loops_merge, tree.trans ?_⟩
      unfold lapB at h
      cases c1 : (s.toList == f.toList) with
      | false =>
        rw [c1] at h
        simp only [pickA, Bool.false_and, cond_false, cond_true] at h
        cases h
        by_cases h0 : (mergeL s ss f fs t t).2 = 0
        · rw [holds_mk h0, h0]; rfl
        · have hf : holds ((mergeL s ss f fs t t).2 = 0) = false := by
            cases hh : holds ((mergeL s ss f fs t t).2 = 0) with
            | false => rfl
            | true => exact absurd (holds_inv hh) h0
          rw [hf]; rfl
      | true =>
        rw [c1] at h
        cases c2 : begX ss fs with
        | true => rw [c2] at h; cases h; rfl
        | false =>
          cases c3 : begX fs ss with
          | true => rw [c2, c3] at h; cases h; rfl
          | false =>
            rw [c2, c3] at h
            cases h
            by_cases h0 : (mergeL s ss f fs t t).2 = 0
            · rw [holds_mk h0, h0]; rfl
            · have hf : holds ((mergeL s ss f fs t t).2 = 0) = false := by
                cases hh : holds ((mergeL s ss f fs t t).2 = 0) with
                | false => rfl
                | true => exact absurd (holds_inv hh) h0
              rw [hf]; rfl
  · rename_i s p f q
    cases hg : (isL p && isL q) with
    | false => rw [hg] at h; simp only [pickA, Bool.false_and, cond_false] at h; cases h
    | true =>
      rw [hg, Bool.true_and] at h
      simp only [Bool.and_eq_true] at hg
      obtain ⟨ss, rfl, hss⟩ := isL_inv hg.1
      obtain ⟨fs, rfl, hfs⟩ := isL_inv hg.2
      have e3 : asL (pL ss) = ss := asL_mk ss
      have e4 : asL (pL fs) = fs := asL_mk fs
      simp only [e3, e4] at h
      have i1 := isL_mk hss
      have i2 := isL_mk hfs
      have i4 : isT (PV.agg [PV.sl 0 []]) = true := isT_mk shT_nil
      have a4 : asT (PV.agg [PV.sl 0 []]) = [] := asT_mk []
      have tree := q_merge0_eq s ss f fs
      simp only [isL, i1, i2, i4, a4, asL_mk, holds_true, Bool.and_true, Bool.true_and] at tree
      refine ⟨loops_merge, tree.trans ?_⟩
      unfold lapB at h
      cases c1 : (s.toList == f.toList) with
      | false =>
        rw [c1] at h
        simp only [pickA, Bool.false_and, cond_false, cond_true] at h
        cases h
        rfl
      | true =>
        rw [c1] at h
        cases c2 : begX ss fs with
        | true => rw [c2] at h; cases h; rfl
        | false =>
          cases c3 : begX fs ss with
          | true => rw [c2, c3] at h; cases h; rfl
          | false => rw [c2, c3] at h; cases h; rfl
  · cases h
theorem ok_mgb2 : EntriesOk Tryz.prog mgb2 := ⟨ok_merge, ok_copyTree, ok_ibc0⟩
theorem ok_MergeNode : EntryOk Tryz.prog 7 E_MergeNode := entry_ofM mix ok_mgb2 (lp := lp_MergeNode) (LO := LO0) ⟨Tryz.func7, by kernel_rfl, by kernel_rfl⟩ (by kernel_rfl) fun ivs res bxs h => by
  unfold E_MergeNode at h
  split at h
  · rename_i p s q f r
    obtain ⟨hc, he⟩ := pick1 h
    cases he
    simp only [Bool.and_eq_true, decide_eq_true_eq] at hc
    obtain ⟨⟨⟨⟨h1, hsz⟩, hfz⟩, h3⟩, h4⟩ := hc
    obtain ⟨t, rfl, ht⟩ := isE_inv h1
    obtain ⟨ss, rfl, hss⟩ := isL_inv h3
    obtain ⟨fs, rfl, hfs⟩ := isL_inv h4
    refine ⟨noLoop (by kernel_rfl), ?_⟩
    have tree := q_MergeNode_eq t s ss f fs
    have e1 := isT_mk ht
    have e2 := isL_mk hss
    have e2' := isL_mk hfs
    have e3 := isNs_mk ht
    have e4 : asT (pT t) = t := asT_mk t
    have e5 : asL (pL ss) = ss := asL_mk ss
    have e6 : asL (pL fs) = fs := asL_mk fs
    simp only [isT, isNs, isL, e1, e2, e2', e3, asT_mk, asNs_mk, asL_mk, dT hsz, dT hfz, Bool.and_true, Bool.true_and, Nat.beq_refl] at tree
    rw [e4, e5, e6]
    unfold mergeW
    cases hB : treeB t with
    | false => rw [hB] at tree; exact ⟨.tup [.agg [.pv .nils], cI 1], tree.trans rfl, rfl, rfl⟩
    | true =>
      cases hP : placeB s ss with
      | false => rw [hB, hP] at tree; exact ⟨.tup [.agg [.pv .nils], cI 1], tree.trans rfl, rfl, rfl⟩
      | true =>
        cases hQ : placeB f fs with
        | false => rw [hB, hP, hQ] at tree; exact ⟨.tup [.agg [.pv .nils], cI 1], tree.trans rfl, rfl, rfl⟩
        | true =>
          rw [hB, hP, hQ] at tree
          rw [Bool.and_self, Bool.and_self, if_pos rfl]
          cases hN : holds (t = []) with
          | true =>
            rw [hN] at tree
            have := holds_inv hN
            subst this
            cases hL : lapB s ss f fs with
            | true => rw [hL] at tree; exact ⟨.tup [.agg [.pv .nils], cI 5], tree.trans rfl, rfl, rfl⟩
            | false =>
              rw [hL] at tree
              exact ⟨.tup [.agg [.pv .nils], cI 0], tree.trans rfl, rfl, by
                unfold mergeL
                rfl⟩
          | false =>
            rw [hN] at tree
            cases hL : lapB s ss f fs with
            | true => rw [hL] at tree; exact ⟨.tup [.agg [.pv .nils], cI 5], tree.trans rfl, rfl, rfl⟩
            | false =>
              rw [hL] at tree
              by_cases h0 : (mergeL s ss f fs t t).2 = 0
              · have hne : ((mergeL s ss f fs t t).2 != 0) = false := by rw [h0]; rfl
                rw [hne] at tree
                rw [if_neg Bool.false_ne_true, if_pos h0]
                exact ⟨.tup [.agg [lN (mergeL s ss f fs t t).1], cI 0], tree.trans rfl, rfl, rfl⟩
              · have hne : ((mergeL s ss f fs t t).2 != 0) = true := by simpa using h0
                rw [hne] at tree
                rw [if_neg Bool.false_ne_true, if_neg h0]
                exact ⟨.tup [.agg [.pv .nils], cI (mergeL s ss f fs t t).2], tree.trans rfl, rfl, rfl⟩
  · cases h

theorem dm_facts {n : Nat} {l : List PV} (hw : wfB n l = true) (hn : n ≤ 1048577) : (treeV n l 0).2 ≤ 200 ∧ treeR (treeV n l 0).1 ∧ (dmW1 n l).2 ≤ 400 ∧ whR (dmW1 n l).1 ∧ whR (dmW2 n l).1 := by
  obtain ⟨_, h2, h3, _⟩ := drawV_ok tree_draw hw hn (k := 0) (by omega)
  have h2' : (treeV n l 0).2 ≤ 0 + 200 := h2
  obtain ⟨_, h5, h6, _⟩ := drawV_ok (where_draw h3.1 h3.2.1 h3.2.2.1) hw hn (k := (treeV n l 0).2) (by omega)
  have h5' : (dmW1 n l).2 ≤ (treeV n l 0).2 + 200 := h5
  obtain ⟨_, _, h9, _⟩ := drawV_ok (where_draw h3.1 h3.2.1 h3.2.2.1) hw hn (k := (dmW1 n l).2) (by omega)
  exact ⟨by omega, h3, by omega, h6, h9⟩
theorem ok_dm : EntryOk Tryz.prog 6 E_dm := entry_ofM mix ok_xab (lp := lp_dm) (LO := LO0) ⟨Tryz.func6, by kernel_rfl, by kernel_rfl⟩ (by kernel_rfl) fun ivs res bxs h => by
  unfold E_dm at h
  split at h
  · rename_i n l
    obtain ⟨hc, he⟩ := pick1 h
    cases he
    simp only [Bool.and_eq_true, decide_eq_true_eq] at hc
    obtain ⟨hw, hn⟩ := hc
    obtain ⟨h2, h3, h4, h5, h6⟩ := dm_facts hw hn
    refine ⟨noLoop (by kernel_rfl), ?_⟩
    have tree := q_dm_eq n l
    have s0 : srcOk n l 0 0 = true := srcOk_mk (k := 0) hw (by omega) hn
    have s1 := srcOk_mk (k := (treeV n l 0).2) hw (by omega) hn
    have s2 := srcOk_mk (k := (dmW1 n l).2) hw (by omega) hn
    have hz : decide ((0 : Int) ≤ 400000) = true := rfl
    cases hnil : (treeV n l 0).1.1 with
    | true =>
      have e : (treeV n l 0).1.2 = [] := h3.2.2.2 hnil
      have i1 : isT (PV.agg [PV.sl 0 []]) = true := isT_mk shT_nil
      have i2 : asT (PV.agg [PV.sl 0 []]) = [] := asT_mk []
      have i3 : holds (([] : List NodeT).length ≤ 200 ∧ few []) = true := holds_mk ⟨by simp, few_nil⟩
      have eW1 : whereV [] n l (treeV n l 0).2 = dmW1 n l := by unfold dmW1; rw [e]
      have eW2 : whereV [] n l (dmW1 n l).2 = dmW2 n l := by unfold dmW2; rw [e]
      simp (disch := omega) only [hnil, i1, i2, i3, s0, s1, Int.toNat_natCast, dT, hz, Bool.and_true, Bool.true_and] at tree
      rw [eW1] at tree
      simp (disch := omega) only [s2, Int.toNat_natCast, dT, Bool.and_true, Bool.true_and] at tree
      rw [eW2] at tree
      exact ⟨_, tree, rfl, by rw [e]; rfl⟩
    | false =>
      have i1 := isT_mk h3.1
      have i2 := asT_mk (treeV n l 0).1.2
      have i3 : holds ((treeV n l 0).1.2.length ≤ 200 ∧ few (treeV n l 0).1.2) = true := holds_mk ⟨h3.2.1, h3.2.2.1⟩
      have eW1 : whereV (treeV n l 0).1.2 n l (treeV n l 0).2 = dmW1 n l := rfl
      have eW2 : whereV (treeV n l 0).1.2 n l (dmW1 n l).2 = dmW2 n l := rfl
      simp (disch := omega) only [hnil, isT, i1, i2, i3, s0, s1, Int.toNat_natCast, dT, hz, Bool.and_true, Bool.true_and, Bool.and_false] at tree
      rw [eW1] at tree
      simp (disch := omega) only [s2, Int.toNat_natCast, dT, Bool.and_true, Bool.true_and] at tree
      rw [eW2] at tree
      exact ⟨_, tree, rfl, rfl⟩
  · cases h
end

section
open Go.RowKit
set_option linter.unusedVariables false
set_option linter.unusedSimpArgs false

noncomputable def q_SGetNode (br : Br) (t : List NodeT) (s : ByteArray) (xs : List ByteArray) := evB br Tryz.prog sab7 [] LO0 Tryz.f10 [cP (pT t), cS s, cP (pL xs)]
noncomputable def E_SGetNode : Entry := fun ivs => match ivs with
  | [.cv (.pv p), .cv (.pv (.str s)), .cv (.pv q)] => [(isT p && decide (s.size ≤ 1000000) && isL q, .tup [cS ((getW (asT p) s (asL q)).getD ⟨#[]⟩), cB (getW (asT p) s (asL q)).isSome], [])]
  | _ => []
noncomputable def mhb0 : List (FuncId × Entry) := (5, E_b10Long) :: (6, E_dm) :: (7, E_MergeNode) :: (9, E_GetNode) :: (10, E_SGetNode) :: (8, E_l02Same) :: sab5
abbrev lp_fm : List (Nat × List Nat × List Nat) := [(9, [5, 6, 7, 8, 9, 10, 12, 13], [4, 5, 10, 12])]
noncomputable def LO_fm : LoopT := fun _ ls => match ls with
  | [(.ptr x 0, some (.box [.pv p])), (.pv (.str s), none), (.pv q, none), (.pv (.str f), none), (.pv r, none), (.ptr y 0, some (.box [.pv p2])), (.pv (.int .i64 c), none), (.pv (.int .i64 i), none)] =>
    [(isNs p && isL q && isL r && isNs p2 && (i == 0) && (c == 0) && Nat.beq x 20480 && Nat.beq y 40960 && decide (s.size ≤ 1000000) && placeB s (asL q) && treeB (asNs p) && holds (Merged s (asL q) f (asL r) (asNs p) (asNs p) (asNs p2)), .exit 0, [aX, aBx 5 [.pv p], aBx 10 [.pv p2], aI (newN s (asL q) f (asL r) (asNs p) (asNs p))])]
  | _ => []
noncomputable def r_fm (br : Br) (t : List NodeT) (s : ByteArray) (ss : List ByteArray) (f : ByteArray) (fs : List ByteArray) (u : List NodeT) (c i : Int) := rdB br Tryz.prog mhb0 lp_fm LO_fm Tryz.f3 9 [] [aBx 5 [.pv (pNs t)], aS s, aP (pL ss), aS f, aP (pL fs), aBx 10 [.pv (pNs u)], aI c, aI i]
noncomputable def q_fm (br : Br) (n : Nat) (l : List PV) (m : Nat) (k : List PV) := evB br Tryz.prog mhb0 lp_fm LO_fm Tryz.f3 [cP (.sl n l), cP (.sl m k)]
end

section
set_option linter.unusedVariables false
set_option maxRecDepth 100000
theorem q_fm_eq (n : Nat) (l : List PV) (m : Nat) (k : List PV) : q_fm brC n l m k =
 brC (decide ((↑n : Int) > 1048576) || decide ((↑m : Int) > 1048576))
  (some ((IV.cv (CV.pv (PV.bool true)), [])))
  (brC (wfB n l && decide (n ≤ 1048577))
    (brC (isT (PV.agg [PV.sl (List.length (Prod.snd (Prod.fst (treeV n l 0)))) (encN (Prod.snd (Prod.fst (treeV n l 0))))]) && decide (ByteArray.size (Prod.fst (Prod.fst (dmW1 n l))) ≤ 1000000) && decide (ByteArray.size (Prod.fst (Prod.fst (dmW2 n l))) ≤ 1000000) && isL (PV.sl (List.length (Prod.snd (Prod.fst (dmW1 n l)))) (List.map PV.str (Prod.snd (Prod.fst (dmW1 n l))))) && isL (PV.sl (List.length (Prod.snd (Prod.fst (dmW2 n l)))) (List.map PV.str (Prod.snd (Prod.fst (dmW2 n l))))))
      (brC (Prod.snd (mergeW (asT (PV.agg [PV.sl (List.length (Prod.snd (Prod.fst (treeV n l 0)))) (encN (Prod.snd (Prod.fst (treeV n l 0))))])) (Prod.fst (Prod.fst (dmW1 n l))) (asL (PV.sl (List.length (Prod.snd (Prod.fst (dmW1 n l)))) (List.map PV.str (Prod.snd (Prod.fst (dmW1 n l)))))) (Prod.fst (Prod.fst (dmW2 n l))) (asL (PV.sl (List.length (Prod.snd (Prod.fst (dmW2 n l)))) (List.map PV.str (Prod.snd (Prod.fst (dmW2 n l))))))) != 0)
        (some ((IV.cv (CV.pv (PV.bool true)), [])))
        (brC (isNs (pNs (Prod.snd (Prod.fst (treeV n l 0)))) && isL (pL (Prod.snd (Prod.fst (dmW1 n l)))) && isL (pL (Prod.snd (Prod.fst (dmW2 n l)))) && isNs (pNs (Prod.fst (mergeW (asT (PV.agg [PV.sl (List.length (Prod.snd (Prod.fst (treeV n l 0)))) (encN (Prod.snd (Prod.fst (treeV n l 0))))])) (Prod.fst (Prod.fst (dmW1 n l))) (asL (PV.sl (List.length (Prod.snd (Prod.fst (dmW1 n l)))) (List.map PV.str (Prod.snd (Prod.fst (dmW1 n l)))))) (Prod.fst (Prod.fst (dmW2 n l))) (asL (PV.sl (List.length (Prod.snd (Prod.fst (dmW2 n l)))) (List.map PV.str (Prod.snd (Prod.fst (dmW2 n l))))))))) && 0 == 0 && 0 == 0 && Nat.beq 20480 20480 && Nat.beq 40960 40960 && decide (ByteArray.size (Prod.fst (Prod.fst (dmW1 n l))) ≤ 1000000) && placeB (Prod.fst (Prod.fst (dmW1 n l))) (asL (pL (Prod.snd (Prod.fst (dmW1 n l))))) && treeB (asNs (pNs (Prod.snd (Prod.fst (treeV n l 0))))) && holds (Merged (Prod.fst (Prod.fst (dmW1 n l))) (asL (pL (Prod.snd (Prod.fst (dmW1 n l))))) (Prod.fst (Prod.fst (dmW2 n l))) (asL (pL (Prod.snd (Prod.fst (dmW2 n l))))) (asNs (pNs (Prod.snd (Prod.fst (treeV n l 0))))) (asNs (pNs (Prod.snd (Prod.fst (treeV n l 0))))) (asNs (pNs (Prod.fst (mergeW (asT (PV.agg [PV.sl (List.length (Prod.snd (Prod.fst (treeV n l 0)))) (encN (Prod.snd (Prod.fst (treeV n l 0))))])) (Prod.fst (Prod.fst (dmW1 n l))) (asL (PV.sl (List.length (Prod.snd (Prod.fst (dmW1 n l)))) (List.map PV.str (Prod.snd (Prod.fst (dmW1 n l)))))) (Prod.fst (Prod.fst (dmW2 n l))) (asL (PV.sl (List.length (Prod.snd (Prod.fst (dmW2 n l)))) (List.map PV.str (Prod.snd (Prod.fst (dmW2 n l))))))))))))
          (brC ((↑(List.length (Prod.fst (mergeW (asT (PV.agg [PV.sl (List.length (Prod.snd (Prod.fst (treeV n l 0)))) (encN (Prod.snd (Prod.fst (treeV n l 0))))])) (Prod.fst (Prod.fst (dmW1 n l))) (asL (PV.sl (List.length (Prod.snd (Prod.fst (dmW1 n l)))) (List.map PV.str (Prod.snd (Prod.fst (dmW1 n l)))))) (Prod.fst (Prod.fst (dmW2 n l))) (asL (PV.sl (List.length (Prod.snd (Prod.fst (dmW2 n l)))) (List.map PV.str (Prod.snd (Prod.fst (dmW2 n l))))))))) : Int) == IntKind.wrap IntKind.i64 ((↑(List.length (Prod.snd (Prod.fst (treeV n l 0)))) : Int) + (↑(newN (Prod.fst (Prod.fst (dmW1 n l))) (asL (pL (Prod.snd (Prod.fst (dmW1 n l))))) (Prod.fst (Prod.fst (dmW2 n l))) (asL (pL (Prod.snd (Prod.fst (dmW2 n l))))) (asNs (pNs (Prod.snd (Prod.fst (treeV n l 0))))) (asNs (pNs (Prod.snd (Prod.fst (treeV n l 0)))))) : Int)))
            (brC (isT (PV.agg [PV.sl (List.length (Prod.fst (mergeW (asT (PV.agg [PV.sl (List.length (Prod.snd (Prod.fst (treeV n l 0)))) (encN (Prod.snd (Prod.fst (treeV n l 0))))])) (Prod.fst (Prod.fst (dmW1 n l))) (asL (PV.sl (List.length (Prod.snd (Prod.fst (dmW1 n l)))) (List.map PV.str (Prod.snd (Prod.fst (dmW1 n l)))))) (Prod.fst (Prod.fst (dmW2 n l))) (asL (PV.sl (List.length (Prod.snd (Prod.fst (dmW2 n l)))) (List.map PV.str (Prod.snd (Prod.fst (dmW2 n l))))))))) (encN (Prod.fst (mergeW (asT (PV.agg [PV.sl (List.length (Prod.snd (Prod.fst (treeV n l 0)))) (encN (Prod.snd (Prod.fst (treeV n l 0))))])) (Prod.fst (Prod.fst (dmW1 n l))) (asL (PV.sl (List.length (Prod.snd (Prod.fst (dmW1 n l)))) (List.map PV.str (Prod.snd (Prod.fst (dmW1 n l)))))) (Prod.fst (Prod.fst (dmW2 n l))) (asL (PV.sl (List.length (Prod.snd (Prod.fst (dmW2 n l)))) (List.map PV.str (Prod.snd (Prod.fst (dmW2 n l)))))))))]))
              (some ((IV.cv (CV.pv (PV.bool (treeB (asT (PV.agg [PV.sl (List.length (Prod.fst (mergeW (asT (PV.agg [PV.sl (List.length (Prod.snd (Prod.fst (treeV n l 0)))) (encN (Prod.snd (Prod.fst (treeV n l 0))))])) (Prod.fst (Prod.fst (dmW1 n l))) (asL (PV.sl (List.length (Prod.snd (Prod.fst (dmW1 n l)))) (List.map PV.str (Prod.snd (Prod.fst (dmW1 n l)))))) (Prod.fst (Prod.fst (dmW2 n l))) (asL (PV.sl (List.length (Prod.snd (Prod.fst (dmW2 n l)))) (List.map PV.str (Prod.snd (Prod.fst (dmW2 n l))))))))) (encN (Prod.fst (mergeW (asT (PV.agg [PV.sl (List.length (Prod.snd (Prod.fst (treeV n l 0)))) (encN (Prod.snd (Prod.fst (treeV n l 0))))])) (Prod.fst (Prod.fst (dmW1 n l))) (asL (PV.sl (List.length (Prod.snd (Prod.fst (dmW1 n l)))) (List.map PV.str (Prod.snd (Prod.fst (dmW1 n l)))))) (Prod.fst (Prod.fst (dmW2 n l))) (asL (PV.sl (List.length (Prod.snd (Prod.fst (dmW2 n l)))) (List.map PV.str (Prod.snd (Prod.fst (dmW2 n l)))))))))]))))), [])))
              (none))
            (some ((IV.cv (CV.pv (PV.bool false)), []))))
          (none)))
      (none))
    (none)) := by kernel_rfl
theorem q_SGetNode_eq (t : List NodeT) (s : ByteArray) (xs : List ByteArray) : q_SGetNode brC t s xs =
 brC (isT (PV.agg [PV.sl (List.length t) (encN t)]))
  (brC (!treeB (asT (PV.agg [PV.sl (List.length t) (encN t)])))
    (some ((IV.tup [IV.cv (CV.pv (PV.str { data := #[] })), IV.cv (CV.pv (PV.bool false))], [])))
    (brC (decide (ByteArray.size s ≤ 1000000) && isL (PV.sl (List.length xs) (List.map PV.str xs)))
      (brC (!placeB s (asL (PV.sl (List.length xs) (List.map PV.str xs))))
        (some ((IV.tup [IV.cv (CV.pv (PV.str { data := #[] })), IV.cv (CV.pv (PV.bool false))], [])))
        (brC (isT (PV.agg [PV.sl (List.length t) (encN t)]) && isL (PV.sl (List.length xs) (List.map PV.str xs)))
          (brC (!hasAt (asT (PV.agg [PV.sl (List.length t) (encN t)])) s (asL (PV.sl (List.length xs) (List.map PV.str xs))))
            (some ((IV.tup [IV.cv (CV.pv (PV.str { data := #[] })), IV.cv (CV.pv (PV.bool false))], [])))
            (brC (decide (0 ≤ (↑(locIdx (asT (PV.agg [PV.sl (List.length t) (encN t)])) s (asL (PV.sl (List.length xs) (List.map PV.str xs)))) : Int)) && decide ((↑(locIdx (asT (PV.agg [PV.sl (List.length t) (encN t)])) s (asL (PV.sl (List.length xs) (List.map PV.str xs)))) : Int) < (↑(List.length t) : Int)))
              (brC (Nat.blt 0 (List.length (List.drop 2 (List.drop (Int.toNat (↑(locIdx (asT (PV.agg [PV.sl (List.length t) (encN t)])) s (asL (PV.sl (List.length xs) (List.map PV.str xs)))) : Int) * 3) (encN t)))) && PV.isStr (List.headD (List.drop 2 (List.drop (Int.toNat (↑(locIdx (asT (PV.agg [PV.sl (List.length t) (encN t)])) s (asL (PV.sl (List.length xs) (List.map PV.str xs)))) : Int) * 3) (encN t))) PV.nilp) && true)
                (some ((IV.tup [IV.cv (CV.pv (PV.str (PV.asStr (List.headD (List.drop 2 (List.drop (Int.toNat (↑(locIdx (asT (PV.agg [PV.sl (List.length t) (encN t)])) s (asL (PV.sl (List.length xs) (List.map PV.str xs)))) : Int) * 3) (encN t))) PV.nilp)))), IV.cv (CV.pv (PV.bool true))], [])))
                (none))
              (none)))
          (none)))
      (none)))
  (none) := by kernel_rfl
theorem r_fm_eq (t : List NodeT) (s : ByteArray) (ss : List ByteArray) (f : ByteArray) (fs : List ByteArray) (u : List NodeT) (c : Int) (i : Int) : r_fm brC t s ss f fs u c i =
 brC (decide (i < (↑(List.length t) : Int)))
  (brC (decide (0 ≤ i) && decide (i < (↑(List.length t) : Int)))
    (brC (Nat.ble 3 (List.length (List.drop (Int.toNat i * 3) (encN t))) && (PV.isStr (List.headD (List.drop (Int.toNat i * 3) (encN t)) PV.nilp) && (PV.isSl (List.headD (List.tail (List.drop (Int.toNat i * 3) (encN t))) PV.nilp) && (PV.isStr (List.headD (List.tail (List.tail (List.drop (Int.toNat i * 3) (encN t)))) PV.nilp) && true && true) && true) && true) && true)
      (brC (ByteArray.toList (PV.asStr (List.headD (List.drop (Int.toNat i * 3) (encN t)) PV.nilp)) == ByteArray.toList f)
        (brC (decide ((↑(PV.slN (List.headD (List.tail (List.drop (Int.toNat i * 3) (encN t))) PV.nilp)) : Int) ≥ (↑(List.length fs) : Int)))
          (brC (decide (0 ≤ 0) && decide (0 ≤ (↑(List.length fs) : Int)) && decide ((↑(List.length fs) : Int) ≤ (↑(PV.slN (List.headD (List.tail (List.drop (Int.toNat i * 3) (encN t))) PV.nilp)) : Int)) && true && true)
            (brC (isL (PV.sl (Int.toNat (↑(List.length fs) : Int) - 0) (List.take ((Int.toNat (↑(List.length fs) : Int) - 0) * 1) (List.drop (0 * 1) (PV.slL (List.headD (List.tail (List.drop (Int.toNat i * 3) (encN t))) PV.nilp))))) && isL (PV.sl (List.length fs) (List.map PV.str fs)))
              (brC (sameX (asL (PV.sl (Int.toNat (↑(List.length fs) : Int) - 0) (List.take ((Int.toNat (↑(List.length fs) : Int) - 0) * 1) (List.drop (0 * 1) (PV.slL (List.headD (List.tail (List.drop (Int.toNat i * 3) (encN t))) PV.nilp)))))) (asL (PV.sl (List.length fs) (List.map PV.str fs))))
                (brC (Nat.beq (List.length (List.map PV.str ss)) (List.length ss * 1) && (decide (0 + List.length ss ≤ 140737488351232) && decide ((0 + List.length ss) * 16 ≤ 140737488355328)))
                  (brC (decide (0 ≤ (↑(List.length fs) : Int)) && decide ((↑(List.length fs) : Int) ≤ (↑(PV.slN (List.headD (List.tail (List.drop (Int.toNat i * 3) (encN t))) PV.nilp)) : Int)) && decide ((↑(PV.slN (List.headD (List.tail (List.drop (Int.toNat i * 3) (encN t))) PV.nilp)) : Int) ≤ (↑(PV.slN (List.headD (List.tail (List.drop (Int.toNat i * 3) (encN t))) PV.nilp)) : Int)) && true && true)
                    (brC (Nat.beq (List.length (List.take ((Int.toNat (↑(PV.slN (List.headD (List.tail (List.drop (Int.toNat i * 3) (encN t))) PV.nilp)) : Int) - Int.toNat (↑(List.length fs) : Int)) * 1) (List.drop (Int.toNat (↑(List.length fs) : Int) * 1) (PV.slL (List.headD (List.tail (List.drop (Int.toNat i * 3) (encN t))) PV.nilp))))) ((Int.toNat (↑(PV.slN (List.headD (List.tail (List.drop (Int.toNat i * 3) (encN t))) PV.nilp)) : Int) - Int.toNat (↑(List.length fs) : Int)) * 1) && (decide (0 + List.length ss + (Int.toNat (↑(PV.slN (List.headD (List.tail (List.drop (Int.toNat i * 3) (encN t))) PV.nilp)) : Int) - Int.toNat (↑(List.length fs) : Int)) ≤ 140737488351232) && decide ((0 + List.length ss + (Int.toNat (↑(PV.slN (List.headD (List.tail (List.drop (Int.toNat i * 3) (encN t))) PV.nilp)) : Int) - Int.toNat (↑(List.length fs) : Int))) * 16 ≤ 140737488355328)))
                      (brC (isT (PV.agg [PV.sl (List.length u) (encN u)]) && decide (ByteArray.size s ≤ 1000000) && isL (PV.sl (0 + List.length ss + (Int.toNat (↑(PV.slN (List.headD (List.tail (List.drop (Int.toNat i * 3) (encN t))) PV.nilp)) : Int) - Int.toNat (↑(List.length fs) : Int))) ([] ++ List.map PV.str ss ++ List.take ((Int.toNat (↑(PV.slN (List.headD (List.tail (List.drop (Int.toNat i * 3) (encN t))) PV.nilp)) : Int) - Int.toNat (↑(List.length fs) : Int)) * 1) (List.drop (Int.toNat (↑(List.length fs) : Int) * 1) (PV.slL (List.headD (List.tail (List.drop (Int.toNat i * 3) (encN t))) PV.nilp))))))
                        (brC (!Option.isSome (getW (asT (PV.agg [PV.sl (List.length u) (encN u)])) s (asL (PV.sl (0 + List.length ss + (Int.toNat (↑(PV.slN (List.headD (List.tail (List.drop (Int.toNat i * 3) (encN t))) PV.nilp)) : Int) - Int.toNat (↑(List.length fs) : Int))) ([] ++ List.map PV.str ss ++ List.take ((Int.toNat (↑(PV.slN (List.headD (List.tail (List.drop (Int.toNat i * 3) (encN t))) PV.nilp)) : Int) - Int.toNat (↑(List.length fs) : Int)) * 1) (List.drop (Int.toNat (↑(List.length fs) : Int) * 1) (PV.slL (List.headD (List.tail (List.drop (Int.toNat i * 3) (encN t))) PV.nilp))))))))
                          (some (Sum.inr (Ex.ret, [(AV.pv (PV.bool false), none), (AV.ptr 20480 0, some (Ob.box [CV.pv (PV.sl (List.length t) (encN t))])), (AV.ptr 40960 0, some (Ob.box [CV.pv (PV.sl (List.length u) (encN u))])), (AV.pv (PV.int IntKind.i64 c), none)])))
                          (brC (!ByteArray.toList (Option.getD (getW (asT (PV.agg [PV.sl (List.length u) (encN u)])) s (asL (PV.sl (0 + List.length ss + (Int.toNat (↑(PV.slN (List.headD (List.tail (List.drop (Int.toNat i * 3) (encN t))) PV.nilp)) : Int) - Int.toNat (↑(List.length fs) : Int))) ([] ++ List.map PV.str ss ++ List.take ((Int.toNat (↑(PV.slN (List.headD (List.tail (List.drop (Int.toNat i * 3) (encN t))) PV.nilp)) : Int) - Int.toNat (↑(List.length fs) : Int)) * 1) (List.drop (Int.toNat (↑(List.length fs) : Int) * 1) (PV.slL (List.headD (List.tail (List.drop (Int.toNat i * 3) (encN t))) PV.nilp))))))) { data := #[] }) == ByteArray.toList (PV.asStr (List.headD (List.tail (List.tail (List.drop (Int.toNat i * 3) (encN t)))) PV.nilp)))
                            (some (Sum.inr (Ex.ret, [(AV.pv (PV.bool false), none), (AV.ptr 20480 0, some (Ob.box [CV.pv (PV.sl (List.length t) (encN t))])), (AV.ptr 40960 0, some (Ob.box [CV.pv (PV.sl (List.length u) (encN u))])), (AV.pv (PV.int IntKind.i64 c), none)])))
                            (brC (isT (PV.agg [PV.sl (List.length t) (encN t)]) && decide (ByteArray.size s ≤ 1000000) && isL (PV.sl (0 + List.length ss + (Int.toNat (↑(PV.slN (List.headD (List.tail (List.drop (Int.toNat i * 3) (encN t))) PV.nilp)) : Int) - Int.toNat (↑(List.length fs) : Int))) ([] ++ List.map PV.str ss ++ List.take ((Int.toNat (↑(PV.slN (List.headD (List.tail (List.drop (Int.toNat i * 3) (encN t))) PV.nilp)) : Int) - Int.toNat (↑(List.length fs) : Int)) * 1) (List.drop (Int.toNat (↑(List.length fs) : Int) * 1) (PV.slL (List.headD (List.tail (List.drop (Int.toNat i * 3) (encN t))) PV.nilp))))))
                              (brC (!Option.isSome (getW (asT (PV.agg [PV.sl (List.length t) (encN t)])) s (asL (PV.sl (0 + List.length ss + (Int.toNat (↑(PV.slN (List.headD (List.tail (List.drop (Int.toNat i * 3) (encN t))) PV.nilp)) : Int) - Int.toNat (↑(List.length fs) : Int))) ([] ++ List.map PV.str ss ++ List.take ((Int.toNat (↑(PV.slN (List.headD (List.tail (List.drop (Int.toNat i * 3) (encN t))) PV.nilp)) : Int) - Int.toNat (↑(List.length fs) : Int)) * 1) (List.drop (Int.toNat (↑(List.length fs) : Int) * 1) (PV.slL (List.headD (List.tail (List.drop (Int.toNat i * 3) (encN t))) PV.nilp))))))))
                                (brC (isT (PV.agg [PV.sl (List.length u) (encN u)]) && decide (ByteArray.size (PV.asStr (List.headD (List.drop (Int.toNat i * 3) (encN t)) PV.nilp)) ≤ 1000000) && isL (PV.sl (PV.slN (List.headD (List.tail (List.drop (Int.toNat i * 3) (encN t))) PV.nilp)) (PV.slL (List.headD (List.tail (List.drop (Int.toNat i * 3) (encN t))) PV.nilp))))
                                  (brC (!Option.isSome (getW (asT (PV.agg [PV.sl (List.length u) (encN u)])) (PV.asStr (List.headD (List.drop (Int.toNat i * 3) (encN t)) PV.nilp)) (asL (PV.sl (PV.slN (List.headD (List.tail (List.drop (Int.toNat i * 3) (encN t))) PV.nilp)) (PV.slL (List.headD (List.tail (List.drop (Int.toNat i * 3) (encN t))) PV.nilp))))))
                                    (some (Sum.inr (Ex.ret, [(AV.pv (PV.bool false), none), (AV.ptr 20480 0, some (Ob.box [CV.pv (PV.sl (List.length t) (encN t))])), (AV.ptr 40960 0, some (Ob.box [CV.pv (PV.sl (List.length u) (encN u))])), (AV.pv (PV.int IntKind.i64 (IntKind.wrap IntKind.i64 (c + 1))), none)])))
                                    (some (Sum.inl [(AV.ptr 20480 0, some (Ob.box [CV.pv (PV.sl (List.length t) (encN t))])), (AV.pv (PV.str s), none), (AV.pv (PV.sl (List.length ss) (List.map PV.str ss)), none), (AV.pv (PV.str f), none), (AV.pv (PV.sl (List.length fs) (List.map PV.str fs)), none), (AV.ptr 40960 0, some (Ob.box [CV.pv (PV.sl (List.length u) (encN u))])), (AV.pv (PV.int IntKind.i64 (IntKind.wrap IntKind.i64 (c + 1))), none), (AV.pv (PV.int IntKind.i64 (IntKind.wrap IntKind.i64 (i + 1))), none)])))
                                  (none))
                                (brC (isT (PV.agg [PV.sl (List.length u) (encN u)]) && decide (ByteArray.size (PV.asStr (List.headD (List.drop (Int.toNat i * 3) (encN t)) PV.nilp)) ≤ 1000000) && isL (PV.sl (PV.slN (List.headD (List.tail (List.drop (Int.toNat i * 3) (encN t))) PV.nilp)) (PV.slL (List.headD (List.tail (List.drop (Int.toNat i * 3) (encN t))) PV.nilp))))
                                  (brC (!Option.isSome (getW (asT (PV.agg [PV.sl (List.length u) (encN u)])) (PV.asStr (List.headD (List.drop (Int.toNat i * 3) (encN t)) PV.nilp)) (asL (PV.sl (PV.slN (List.headD (List.tail (List.drop (Int.toNat i * 3) (encN t))) PV.nilp)) (PV.slL (List.headD (List.tail (List.drop (Int.toNat i * 3) (encN t))) PV.nilp))))))
                                    (some (Sum.inr (Ex.ret, [(AV.pv (PV.bool false), none), (AV.ptr 20480 0, some (Ob.box [CV.pv (PV.sl (List.length t) (encN t))])), (AV.ptr 40960 0, some (Ob.box [CV.pv (PV.sl (List.length u) (encN u))])), (AV.pv (PV.int IntKind.i64 c), none)])))
                                    (some (Sum.inl [(AV.ptr 20480 0, some (Ob.box [CV.pv (PV.sl (List.length t) (encN t))])), (AV.pv (PV.str s), none), (AV.pv (PV.sl (List.length ss) (List.map PV.str ss)), none), (AV.pv (PV.str f), none), (AV.pv (PV.sl (List.length fs) (List.map PV.str fs)), none), (AV.ptr 40960 0, some (Ob.box [CV.pv (PV.sl (List.length u) (encN u))])), (AV.pv (PV.int IntKind.i64 c), none), (AV.pv (PV.int IntKind.i64 (IntKind.wrap IntKind.i64 (i + 1))), none)])))
                                  (none)))
                              (none))))
                        (none))
                      (none))
                    (none))
                  (none))
                (brC (isT (PV.agg [PV.sl (List.length u) (encN u)]) && decide (ByteArray.size (PV.asStr (List.headD (List.drop (Int.toNat i * 3) (encN t)) PV.nilp)) ≤ 1000000) && isL (PV.sl (PV.slN (List.headD (List.tail (List.drop (Int.toNat i * 3) (encN t))) PV.nilp)) (PV.slL (List.headD (List.tail (List.drop (Int.toNat i * 3) (encN t))) PV.nilp))))
                  (brC (!Option.isSome (getW (asT (PV.agg [PV.sl (List.length u) (encN u)])) (PV.asStr (List.headD (List.drop (Int.toNat i * 3) (encN t)) PV.nilp)) (asL (PV.sl (PV.slN (List.headD (List.tail (List.drop (Int.toNat i * 3) (encN t))) PV.nilp)) (PV.slL (List.headD (List.tail (List.drop (Int.toNat i * 3) (encN t))) PV.nilp))))))
                    (some (Sum.inr (Ex.ret, [(AV.pv (PV.bool false), none), (AV.ptr 20480 0, some (Ob.box [CV.pv (PV.sl (List.length t) (encN t))])), (AV.ptr 40960 0, some (Ob.box [CV.pv (PV.sl (List.length u) (encN u))])), (AV.pv (PV.int IntKind.i64 c), none)])))
                    (some (Sum.inl [(AV.ptr 20480 0, some (Ob.box [CV.pv (PV.sl (List.length t) (encN t))])), (AV.pv (PV.str s), none), (AV.pv (PV.sl (List.length ss) (List.map PV.str ss)), none), (AV.pv (PV.str f), none), (AV.pv (PV.sl (List.length fs) (List.map PV.str fs)), none), (AV.ptr 40960 0, some (Ob.box [CV.pv (PV.sl (List.length u) (encN u))])), (AV.pv (PV.int IntKind.i64 c), none), (AV.pv (PV.int IntKind.i64 (IntKind.wrap IntKind.i64 (i + 1))), none)])))
                  (none)))
              (none))
            (none))
          (brC (isT (PV.agg [PV.sl (List.length u) (encN u)]) && decide (ByteArray.size (PV.asStr (List.headD (List.drop (Int.toNat i * 3) (encN t)) PV.nilp)) ≤ 1000000) && isL (PV.sl (PV.slN (List.headD (List.tail (List.drop (Int.toNat i * 3) (encN t))) PV.nilp)) (PV.slL (List.headD (List.tail (List.drop (Int.toNat i * 3) (encN t))) PV.nilp))))
            (brC (!Option.isSome (getW (asT (PV.agg [PV.sl (List.length u) (encN u)])) (PV.asStr (List.headD (List.drop (Int.toNat i * 3) (encN t)) PV.nilp)) (asL (PV.sl (PV.slN (List.headD (List.tail (List.drop (Int.toNat i * 3) (encN t))) PV.nilp)) (PV.slL (List.headD (List.tail (List.drop (Int.toNat i * 3) (encN t))) PV.nilp))))))
              (some (Sum.inr (Ex.ret, [(AV.pv (PV.bool false), none), (AV.ptr 20480 0, some (Ob.box [CV.pv (PV.sl (List.length t) (encN t))])), (AV.ptr 40960 0, some (Ob.box [CV.pv (PV.sl (List.length u) (encN u))])), (AV.pv (PV.int IntKind.i64 c), none)])))
              (some (Sum.inl [(AV.ptr 20480 0, some (Ob.box [CV.pv (PV.sl (List.length t) (encN t))])), (AV.pv (PV.str s), none), (AV.pv (PV.sl (List.length ss) (List.map PV.str ss)), none), (AV.pv (PV.str f), none), (AV.pv (PV.sl (List.length fs) (List.map PV.str fs)), none), (AV.ptr 40960 0, some (Ob.box [CV.pv (PV.sl (List.length u) (encN u))])), (AV.pv (PV.int IntKind.i64 c), none), (AV.pv (PV.int IntKind.i64 (IntKind.wrap IntKind.i64 (i + 1))), none)])))
            (none)))
        (brC (isT (PV.agg [PV.sl (List.length u) (encN u)]) && decide (ByteArray.size (PV.asStr (List.headD (List.drop (Int.toNat i * 3) (encN t)) PV.nilp)) ≤ 1000000) && isL (PV.sl (PV.slN (List.headD (List.tail (List.drop (Int.toNat i * 3) (encN t))) PV.nilp)) (PV.slL (List.headD (List.tail (List.drop (Int.toNat i * 3) (encN t))) PV.nilp))))
          (brC (!Option.isSome (getW (asT (PV.agg [PV.sl (List.length u) (encN u)])) (PV.asStr (List.headD (List.drop (Int.toNat i * 3) (encN t)) PV.nilp)) (asL (PV.sl (PV.slN (List.headD (List.tail (List.drop (Int.toNat i * 3) (encN t))) PV.nilp)) (PV.slL (List.headD (List.tail (List.drop (Int.toNat i * 3) (encN t))) PV.nilp))))))
            (some (Sum.inr (Ex.ret, [(AV.pv (PV.bool false), none), (AV.ptr 20480 0, some (Ob.box [CV.pv (PV.sl (List.length t) (encN t))])), (AV.ptr 40960 0, some (Ob.box [CV.pv (PV.sl (List.length u) (encN u))])), (AV.pv (PV.int IntKind.i64 c), none)])))
            (some (Sum.inl [(AV.ptr 20480 0, some (Ob.box [CV.pv (PV.sl (List.length t) (encN t))])), (AV.pv (PV.str s), none), (AV.pv (PV.sl (List.length ss) (List.map PV.str ss)), none), (AV.pv (PV.str f), none), (AV.pv (PV.sl (List.length fs) (List.map PV.str fs)), none), (AV.ptr 40960 0, some (Ob.box [CV.pv (PV.sl (List.length u) (encN u))])), (AV.pv (PV.int IntKind.i64 c), none), (AV.pv (PV.int IntKind.i64 (IntKind.wrap IntKind.i64 (i + 1))), none)])))
          (none)))
      (none))
    (none))
  (some (Sum.inr (Ex.exit 0, [(AV.bad, none), (AV.ptr 20480 0, some (Ob.box [CV.pv (PV.sl (List.length t) (encN t))])), (AV.ptr 40960 0, some (Ob.box [CV.pv (PV.sl (List.length u) (encN u))])), (AV.pv (PV.int IntKind.i64 c), none)]))) := by kernel_rfl
end

section
open Go.RowKit
set_option linter.unusedVariables false
set_option linter.unusedSimpArgs false
set_option maxRecDepth 100000

theorem ok_SGetNode : EntryOk Tryz.prog 10 E_SGetNode := entry_of mix ok_sab7 (lp := []) (LO := LO0) ⟨Tryz.func10, by kernel_rfl, by kernel_rfl⟩ (by kernel_rfl) fun ivs res bxs h => by
  unfold E_SGetNode at h
  split at h
  · rename_i p s q
    obtain ⟨hc, he⟩ := pick1 h
    cases he
    simp only [Bool.and_eq_true, decide_eq_true_eq] at hc
    obtain ⟨⟨h1, hsz⟩, h3⟩ := hc
    obtain ⟨t, rfl, ht⟩ := isE_inv h1
    obtain ⟨xs, rfl, hx⟩ := isL_inv h3
    refine ⟨noLoop (by kernel_rfl), ?_⟩
    have tree := q_SGetNode_eq t s xs
    have e1 := isT_mk ht
    have e2 := isL_mk hx
    have e4 : asT (pT t) = t := asT_mk t
    have e5 : asL (pL xs) = xs := asL_mk xs
    simp only [isT, isL, e1, e2, asT_mk, asL_mk, dT hsz, Bool.and_true, Bool.true_and] at tree
    rw [e4, e5]
    unfold getW
    cases hB : treeB t with
    | false => rw [hB] at tree; exact tree.trans rfl
    | true =>
      cases hP : placeB s xs with
      | false => rw [hB, hP] at tree; exact tree.trans rfl
      | true =>
        rw [hB, hP] at tree
        rw [Bool.and_self, if_pos rfl]
        unfold getV
        cases hA : hasAt t s xs with
        | false => rw [hA] at tree; exact tree.trans rfl
        | true =>
          rw [hA] at tree
          obtain ⟨hl, _, _⟩ := hasAt_inv hA
          have hle := ht.1
          have hs := shN_at ht hl
          rw [if_pos rfl, List.getElem?_eq_getElem hl]
          simp (disch := omega) only [drop_encN t (locIdx t s xs) hl, dT, Int.toNat_natCast, List.length_cons, List.headD_cons, List.tail_cons, PV.isStr, PV.asStr, PV.isSl, PV.slN, PV.slL, ble3, Bool.and_true, Bool.true_and] at tree
          exact tree
  · cases h
theorem newN_succ (s : ByteArray) (ss : List ByteArray) (f : ByteArray) (fs : List ByteArray) (t r : List NodeT) {i : Nat} (hi : i < r.length) : newN s ss f fs t (r.take (i + 1)) = newN s ss f fs t (r.take i) + (if (inX r[i] f fs && !hasAt t s (toX ss fs r[i])) = true then 1 else 0) := by
  unfold newN
  rw [List.take_succ_eq_append_getElem hi, List.filter_append, List.length_append]
  congr 1
  cases hq : (inX r[i] f fs && !hasAt t s (toX ss fs r[i])) with
  | true => rw [List.filter_cons_of_pos (by simpa using hq)]; rfl
  | false => rw [List.filter_cons_of_neg (by simpa using hq)]; rfl
theorem newN_le (s : ByteArray) (ss : List ByteArray) (f : ByteArray) (fs : List ByteArray) (t r : List NodeT) : newN s ss f fs t r ≤ r.length := List.length_filter_le _ _
theorem getW_is {t : List NodeT} (hB : treeB t = true) {s : ByteArray} {xs : List ByteArray} (hP : placeB s xs = true) : (getW t s xs).isSome = hasAt t s xs := by
  unfold getW getV
  rw [hB, hP, Bool.and_self, if_pos rfl]
  cases hA : hasAt t s xs with
  | false => rfl
  | true =>
    obtain ⟨hl, _, _⟩ := hasAt_inv hA
    rw [if_pos rfl, List.getElem?_eq_getElem hl]
    rfl
theorem fm_loop (t : List NodeT) (ht : shT t) (hB : treeB t = true) (s : ByteArray) (ss : List ByteArray) (f : ByteArray) (fs : List ByteArray) (hss : shL ss) (hfs : shL fs) (hsz : s.size ≤ 1000000) (hP : placeB s ss = true) (u : List NodeT) (hu : shT u) (M : Merged s ss f fs t t u) : ∀ (m i : Nat), m + i = t.length →
    LoopsTo (rdB brC Tryz.prog mhb0 lp_fm LO_fm Tryz.f3 9 []) [aBx 5 [.pv (pNs t)], aS s, aP (pL ss), aS f, aP (pL fs), aBx 10 [.pv (pNs u)], aI (newN s ss f fs t (t.take i)), aI i] (.exit 0, [aX, aBx 5 [.pv (pNs t)], aBx 10 [.pv (pNs u)], aI (newN s ss f fs t t)]) := by
  have hl := ht.1
  have hssB : subsB ss = true := by unfold placeB at hP; rw [Bool.and_eq_true] at hP; exact hP.2
  have hss4 := subsB_len hssB
  have e1 := isT_mk ht
  have e2 := isT_mk hu
  have e3 := isL_mk hss
  have e4 := isL_mk hfs
  intro m
  induction m with
  | zero =>
    intro i hm
    obtain rfl : i = t.length := by omega
    rw [List.take_length]
    refine .done _ _ ((r_fm_eq t s ss f fs u _ t.length).trans ?_)
    rw [dF (by omega)]
    rfl
  | succ m ih =>
    intro i hm
    have hi : i < t.length := by omega
    have hs := shN_at ht hi
    have hmem := List.getElem_mem hi
    have hnB := (treeB_ok hB).2.1 t[i] hmem
    have hsubs : t[i].subs.length ≤ 4 := by
      unfold nodeB placeB at hnB
      simp only [Bool.and_eq_true] at hnB
      exact subsB_len hnB.1.2
    have ih' := ih (i + 1) (by omega)
    rw [newN_succ s ss f fs t t hi] at ih'
    have hcl := newN_le s ss f fs t (t.take i)
    rw [List.length_take] at hcl
    have hplace : (getW u t[i].name t[i].subs).isSome = true := by
      obtain ⟨y, hy, q1, q2⟩ := M.place t[i] hmem
      rw [← q1, ← q2, getW_mem M.tree hy]
      rfl
    have hnz : t[i].name.size ≤ 1000000 := hs.1
    have e5 := isL_mk hs.2.1
    have tree := r_fm_eq t s ss f fs u (newN s ss f fs t (t.take i)) i
    simp (disch := omega) only [drop_encN t i hi, isT, isL, e1, e2, e3, e4, e5, asT_mk, asL_mk, dT, dT hsz, dT hnz, hplace, Int.toNat_natCast, List.length_cons, List.headD_cons, List.tail_cons, PV.isStr, PV.asStr, PV.isSl, PV.slN, PV.slL, ble3, wrap1, Nat.sub_zero, Bool.not_true, Bool.and_true, Bool.true_and] at tree
    by_cases h1 : (t[i].name.toList == f.toList) = true
    · rw [h1] at tree
      by_cases h2 : fs.length ≤ t[i].subs.length
      · rw [dT (show (t[i].subs.length : Int) ≥ (fs.length : Int) by omega)] at tree
        have zT : PV.sl fs.length (List.take (fs.length * 1) (List.drop (0 * 1) (t[i].subs.map PV.str))) = PV.sl (t[i].subs.take fs.length).length ((t[i].subs.take fs.length).map PV.str) := by
          rw [List.length_take, Nat.min_eq_left h2, Nat.mul_one, Nat.zero_mul, List.drop_zero, List.map_take]
        have hTsh : shL (t[i].subs.take fs.length) := ⟨by rw [List.length_take]; omega, fun x hx => hs.2.1.2 x (List.mem_of_mem_take hx)⟩
        have d1 : decide ((fs.length : Int) ≤ (t[i].subs.length : Int)) = true := dT (by omega)
        simp only [zT, d1, isL_mk hTsh, asL_mk, Bool.and_true, Bool.true_and] at tree
        by_cases h3 : sameX (t[i].subs.take fs.length) fs = true
        · have hin : inX t[i] f fs = true := by
            unfold inX begX
            rw [show sEq t[i].name f = true from h1, dT h2, h3]
            rfl
          have hto : subsB (toX ss fs t[i]) = true := M.fits t[i] hmem hin
          have hPt : placeB s (toX ss fs t[i]) = true := by
            unfold placeB at hP ⊢
            rw [Bool.and_eq_true] at hP ⊢
            exact ⟨hP.1, hto⟩
          have hgu : getW u s (toX ss fs t[i]) = some t[i].value := getW_mem M.tree (M.there t[i] hmem hin)
          have hgt : (getW t s (toX ss fs t[i])).isSome = hasAt t s (toX ss fs t[i]) := getW_is hB hPt
          have hdl : (t[i].subs.drop fs.length).length = t[i].subs.length - fs.length := List.length_drop
          have zD : PV.sl (0 + ss.length + (t[i].subs.length - fs.length)) ([] ++ ss.map PV.str ++ List.take ((t[i].subs.length - fs.length) * 1) (List.drop (fs.length * 1) (t[i].subs.map PV.str))) = PV.sl (toX ss fs t[i]).length ((toX ss fs t[i]).map PV.str) := by
            rw [List.nil_append, Nat.mul_one, Nat.mul_one, ← List.map_drop, List.take_of_length_le (by rw [List.length_map, hdl]; exact Nat.le_refl _), List.length_append, List.map_append, hdl, Nat.zero_add]
          have hXsh : shL (toX ss fs t[i]) := ⟨by rw [List.length_append, hdl]; omega, fun x hx => by
            rcases List.mem_append.1 hx with hx | hx
            · exact hss.2 x hx
            · exact hs.2.1.2 x (List.mem_of_mem_drop hx)⟩
          have b1 : Nat.beq (ss.map PV.str).length (ss.length * 1) = true := by rw [List.length_map, Nat.mul_one]; exact Nat.beq_refl _
          have b2 : Nat.beq (List.take ((t[i].subs.length - fs.length) * 1) (List.drop (fs.length * 1) (t[i].subs.map PV.str))).length ((t[i].subs.length - fs.length) * 1) = true := by
            rw [Nat.mul_one, Nat.mul_one, ← List.map_drop, List.take_of_length_le (by rw [List.length_map, hdl]; exact Nat.le_refl _), List.length_map, hdl]
            exact Nat.beq_refl _
          have hvv : (t[i].value.toList == t[i].value.toList) = true := by simp
          simp (disch := omega) only [h3, zD, b1, b2, isL_mk hXsh, asL_mk, hgu, hgt, hvv, Option.isSome_some, Option.getD_some, dT, Bool.not_true, Bool.and_true, Bool.true_and] at tree
          cases hA : hasAt t s (toX ss fs t[i]) with
          | true =>
            rw [hA] at tree
            rw [hin, hA, if_neg (show ¬ (true && !true) = true by decide)] at ih'
            exact .step _ _ _ tree ih'
          | false =>
            rw [hA] at tree
            rw [hin, hA, if_pos (show (true && !false) = true from rfl)] at ih'
            exact .step _ _ _ tree ih'
        · have h3' : sameX (t[i].subs.take fs.length) fs = false := by simpa using h3
          have hin : inX t[i] f fs = false := by
            unfold inX begX
            rw [h3', Bool.and_false, Bool.and_false]
          rw [h3'] at tree
          rw [hin, Bool.false_and, if_neg Bool.false_ne_true] at ih'
          exact .step _ _ _ tree ih'
      · have hin : inX t[i] f fs = false := by
          unfold inX begX
          rw [dF h2, Bool.false_and, Bool.and_false]
        rw [dF (show ¬ (t[i].subs.length : Int) ≥ (fs.length : Int) by omega)] at tree
        rw [hin, Bool.false_and, if_neg Bool.false_ne_true] at ih'
        exact .step _ _ _ tree ih'
    · have h1' : (t[i].name.toList == f.toList) = false := by simpa using h1
      have hin : inX t[i] f fs = false := by
        unfold inX
        rw [show sEq t[i].name f = false from h1', Bool.false_and]
      rw [h1'] at tree
      rw [hin, Bool.false_and, if_neg Bool.false_ne_true] at ih'
      exact .step _ _ _ tree ih'
theorem ok_mhb0 : EntriesOk Tryz.prog mhb0 := ⟨ok_b10Long, ok_dm, ok_MergeNode, ok_GetNode, ok_SGetNode, ok_SSameSubs, ok_sab5⟩
theorem mergeL_sh (s : ByteArray) (ss : List ByteArray) (f : ByteArray) (fs : List ByteArray) (hP : placeB s ss = true) (hss : shL ss) : ∀ (r t : List NodeT), (∀ x ∈ r, shN x ∧ nodeB x = true) → shT t → treeB t = true → shT (mergeL s ss f fs r t).1
  | [], t, _, ht, _ => by unfold mergeL; exact ht
  | x :: r, t, hr, ht, hB => by
    have hx := hr x List.mem_cons_self
    have hr' : ∀ y ∈ r, shN y ∧ nodeB y = true := fun y hy => hr y (List.mem_cons_of_mem _ hy)
    unfold mergeL
    split
    · rename_i hin
      split
      · rename_i hsb
        split
        · exact ht
        · rename_i hh
          have hss4 : ss.length ≤ 4 := by unfold placeB at hP; rw [Bool.and_eq_true] at hP; exact subsB_len hP.2
          have hto4 := subsB_len hsb
          have htosh : shL (toX ss fs x) := ⟨by omega, fun y hy => by
            rcases List.mem_append.1 hy with hy | hy
            · exact hss.2 y hy
            · exact hx.1.2.1.2 y (List.mem_of_mem_drop hy)⟩
          have hsz : s.size ≤ 1000000 := by
            have hN : nameB s = true := by unfold placeB at hP; rw [Bool.and_eq_true] at hP; exact hP.1
            unfold nameB at hN
            simp only [Bool.and_eq_true, decide_eq_true_eq] at hN
            omega
          have hPt : placeB s (toX ss fs x) = true := by
            unfold placeB at hP ⊢
            rw [Bool.and_eq_true] at hP ⊢
            exact ⟨hP.1, hsb⟩
          have hv : x.value.size ≤ 64 := by
            have := hx.2
            unfold nodeB at this
            simp only [Bool.and_eq_true, decide_eq_true_eq] at this
            exact this.2
          have hroom : hasAt t s (toX ss fs x) = true ∨ t.length < 120 := by
            have hle := (treeB_ok hB).1
            cases hq : hasAt t s (toX ss fs x) with
            | true => exact .inl rfl
            | false =>
              right
              rw [hq, Bool.not_false, Bool.true_and, decide_eq_true_eq] at hh
              omega
          exact mergeL_sh s ss f fs hP hss r _ hr' (putT_shB' ht hB hsz htosh hx.1.2.2) (putT_B hB hPt hv hroom)
      · exact ht
    · exact mergeL_sh s ss f fs hP hss r t hr' ht hB
theorem fm_any (n : Nat) (l : List PV) (m : Nat) (k : List PV) (hw : wfB n l = true) : q_fm brC n l m k = some (cB true, []) := by
  have tree := q_fm_eq n l m k
  by_cases hn : (n : Int) > 1048576
  · rw [dT hn] at tree; exact tree
  by_cases hm : (m : Int) > 1048576
  · rw [dF hn, dT hm] at tree; exact tree
  have hn' : n ≤ 1048577 := by omega
  obtain ⟨_, f2, _, f4, f5⟩ := dm_facts hw hn'
  have ht : shT (treeV n l 0).1.2 := f2.1
  rw [dF hn, dF hm, hw, dT hn'] at tree
  obtain ⟨hsz, hss⟩ := f4
  obtain ⟨hfz, hfs⟩ := f5
  generalize (treeV n l 0).1.2 = t at ht tree
  generalize (dmW1 n l).1.1 = s at hsz tree
  generalize (dmW1 n l).1.2 = ss at hss tree
  generalize (dmW2 n l).1.1 = f at hfz tree
  generalize (dmW2 n l).1.2 = fs at hfs tree
  have e1 := isT_mk ht
  have e2 := isNs_mk ht
  have e3 := isL_mk hss
  have e4 := isL_mk hfs
  have e5 : asL (pL ss) = ss := asL_mk ss
  have e6 : asL (pL fs) = fs := asL_mk fs
  have e7 : isL (pL ss) = true := e3
  have e8 : isL (pL fs) = true := e4
  have e9 : asNs (pNs t) = t := asNs_mk t
  have e10 : isNs (pNs t) = true := e2
  refine tree.trans ?_
  clear tree
  simp only [e1, e2, e3, e4, e5, e6, e7, e8, e9, e10, isT, isL, asT_mk, asL_mk, dT hsz, dT hfz, Bool.and_true, Bool.true_and]
  by_cases hc : (mergeW t s ss f fs).2 = 0
  · have hcase : treeB t = true ∧ placeB s ss = true ∧ (mergeL s ss f fs t t).2 = 0 ∧ (mergeW t s ss f fs).1 = (mergeL s ss f fs t t).1 := by
      unfold mergeW at hc ⊢
      split at hc
      · rename_i hg
        rw [if_pos hg]
        simp only [Bool.and_eq_true] at hg
        split at hc
        · cases hc
        · rename_i hL
          rw [if_neg hL]
          split at hc
          · rename_i h0
            rw [if_pos h0]
            exact ⟨hg.1.1, hg.1.2, h0, rfl⟩
          · rename_i h0
            exact absurd hc h0
      · cases hc
    obtain ⟨hB, hP, h0, hu0⟩ := hcase
    have hN : nameB s = true := by unfold placeB at hP; rw [Bool.and_eq_true] at hP; exact hP.1
    have hnd := (treeB_ok hB).2.1
    have M := merged (s := s) (ss := ss) (f := f) (fs := fs) hN t t (mergeL s ss f fs t t).1 hB hnd (to_apart hB ss f fs) (by rw [← h0])
    have hu : shT (mergeL s ss f fs t t).1 := mergeL_sh s ss f fs hP hss t t (fun x hx => ⟨ht.2 x hx, hnd x hx⟩) ht hB
    rw [hc, hu0]
    have i1 := isT_mk hu
    have i2 : isNs (pNs (mergeL s ss f fs t t).1) = true := isNs_mk hu
    have i3 : asNs (pNs (mergeL s ss f fs t t).1) = (mergeL s ss f fs t t).1 := asNs_mk _
    have hne : ((0 : Int) != 0) = false := rfl
    have hcnt := M.count
    have hle := newN_le s ss f fs t t
    have htl := ht.1
    have hw1 : IntKind.wrap .i64 ((t.length : Int) + (newN s ss f fs t t : Int)) = ((t.length + newN s ss f fs t t : Nat) : Int) := by rw [wrapI (by omega) (by omega)]; omega
    have hL : (((mergeL s ss f fs t t).1.length : Int) == ((t.length + newN s ss f fs t t : Nat) : Int)) = true := by rw [hcnt]; exact beq_self_eq_true _
    simp only [hne, i1, i2, i3, hP, hB, M.tree, holds_mk M, hw1, hL, asT_mk, beq_self_eq_true, Nat.beq_refl, Bool.and_true, Bool.true_and]
    rfl
  · have : ((mergeW t s ss f fs).2 != 0) = true := by simpa using hc
    rw [this]
    rfl
end

section
open Go.RowKit Go.ChangeShapes Go.WideShapes
set_option linter.unusedVariables false
set_option linter.unusedSimpArgs false

theorem row_top {w : World} {b : Nat} {xs : List Value} (h : ∃ t f, w.heap[b]? = some (.cells xs.toArray t f)) : GlRow w (comTop w) b xs := by
  obtain ⟨t, f, h⟩ := h
  refine ⟨⟨t, f, h⟩, ?_⟩
  unfold comTop
  rw [h]
  simp
theorem tabIs_row {w : World} {name : String} {g : Nat} {k : IntKind} {zs : List Int} (hg : Tryz.prog.globalNamed name = some g) (h : Lib.TabIs Tryz.prog w name k zs) : GlRow w (comTop w) g (zs.map fun z => Value.int k z) := by
  unfold Lib.TabIs World.var? at h
  rw [hg] at h
  dsimp only [Option.bind_some] at h
  split at h
  · rename_i cs t f hb
    cases h
    exact row_top ⟨t, f, hb⟩
  · cases h
theorem gl_top {w : World}
  (hm : ∃ m : Int, w.cell? ⟨0, 0, none⟩ = some (.int .i64 m))
  (ht : Lib.TabIs Tryz.prog w "internal/strconv.uint64pow10" .u64 Lib.pow10Tab)
  : Gl w (comTop w) := by
  unfold Gl
  refine ⟨?_, ?_⟩
  · obtain ⟨m, hm⟩ := hm
    exact ⟨m, hm, comTop_at hm⟩
  refine ⟨tabIs_row (by kernel_rfl) ht, ?_⟩
  trivial
/-- Bytes as an argument of a law. -/
theorem bytes_pv {w : World} {a : Option Addr} {len cap : Nat} {zs : List Int}
    (h : (a = none ∧ len = 0 ∧ cap = 0 ∧ zs = []) ∨ ∃ x, a = some x ∧ len ≤ cap ∧ cap ≤ maxLen ∧ zs.length = cap ∧ (∀ i, i < zs.length → w.cell? (x.add i) = some (.int .u8 (zs.getD i 0))) ∧ ∀ n ∈ zs, (Lit.int .u8 n).wf = true) :
    ∃ n l, PRep w (comTop w) (.slice a len cap) (.sl n l) ∧ wfB n l = true := by
  rcases h with ⟨rfl, rfl, rfl, rfl⟩ | ⟨x, rfl, hlc, hm, hz, hc, hw⟩
  · exact ⟨0, [], .sl0 none 0, rfl⟩
  · by_cases h0 : len = 0
    · subst h0
      exact ⟨0, [], .sl0 _ _, rfl⟩
    obtain ⟨b, off, spot⟩ := x
    have hc0 := hc 0 (by omega)
    have hspot : spot = none := by simpa [Addr.add] using World.cell?_spot hc0
    subst hspot
    have hcell : ∀ i, i < zs.length → w.cell? ⟨b, off + i, none⟩ = some (.int .u8 (zs.getD i 0)) := by
      intro i hi
      have := hc i hi
      have ea : (⟨b, off, none⟩ : Addr).add i = ⟨b, off + i, none⟩ := by unfold Addr.add; split <;> simp_all
      rwa [ea] at this
    have hr : ∀ z ∈ zs, 0 ≤ z ∧ z < 256 := by
      intro z hzm
      have hb := bounds_u8 (hw z hzm)
      omega
    refine ⟨len, (zs.take len).map fun z => .int .u8 z, .sl b off len cap ((zs.take len).map fun z => .int .u8 z) _ hlc (by simp) (fun v hv => ?_) (fun i hi => ?_) (fun i v hv => ?_) (fun i h1 h2 => ?_), ?_⟩
    · obtain ⟨z, _, rfl⟩ := List.mem_map.1 hv
      rfl
    · simp at hi
      exact comTop_at (hcell i (by omega))
    · rw [List.getElem?_map, Option.map_eq_some_iff] at hv
      obtain ⟨z, hz', rfl⟩ := hv
      rw [List.getElem?_take] at hz'
      split at hz'
      · have hi := (List.getElem?_eq_some_iff.1 hz').1
        rw [hcell i hi, List.getD_eq_getElem?_getD, hz']
        rfl
      · cases hz'
    · simp only [List.getElem_map]
      exact .int _ _
    · unfold wfB
      rw [Bool.and_eq_true]
      refine ⟨?_, ?_⟩
      · have : ((zs.take len).map fun z => PV.int .u8 z).length = len := by simp; omega
        rw [this]
        exact Nat.beq_refl _
      · rw [List.all_eq_true]
        intro p hp
        obtain ⟨z, hzm, rfl⟩ := List.mem_map.1 hp
        obtain ⟨h1, h2⟩ := hr z (List.mem_of_mem_take hzm)
        show (decide (IntKind.u8 = IntKind.u8) && decide (0 ≤ z) && decide (z < 256)) = true
        rw [decide_eq_true rfl, decide_eq_true h1, decide_eq_true h2]
        rfl
end

section
open Go.RowKit
set_option linter.unusedVariables false
theorem FnMerge_walk (v : Value) (n : Nat) (l : List PV) (v' : Value) (m : Nat) (k : List PV) (w : World) (hv : PRep w (comTop w) v (.sl n l)) (hw : wfB n l = true) (hv' : PRep w (comTop w) v' (.sl m k)) (hw' : wfB m k = true) (hgl : Gl w (comTop w)) :
    Calls Tryz.prog 3 #[v, v'] w fun e w' => e = .returned (.bool true) ∧ Below w.heap.size w w' := by
  have hc : Contract Tryz.prog 3 ([.sl n l, .sl m k].map fun p => .cv (.pv p)) (.cv (.pv (.bool true))) [] :=
    fun_okB mix (tabL_ok (l := mhb0) ok_mhb0) (O := OL lp_fm) (LO := LO_fm) ⟨Tryz.func3, by kernel_rfl, by kernel_rfl⟩ (by kernel_rfl) rfl (oneLoop 9 (by kernel_rfl) (by kernel_rfl) (by kernel_rfl) (by
      intro ls e ls' hl
      unfold LO_fm at hl
      split at hl
      · rename_i x p s q f r y p2 c i
        obtain ⟨hc, he⟩ := pick1 hl
        cases he
        simp only [Bool.and_eq_true, beq_iff_eq, decide_eq_true_eq] at hc
        obtain ⟨⟨⟨⟨⟨⟨⟨⟨⟨⟨⟨h1, h2⟩, h3⟩, h4⟩, h5⟩, h6⟩, h7⟩, h8⟩, h9⟩, h10⟩, h11⟩, h12⟩ := hc
        obtain ⟨t, rfl, ht⟩ := isE_inv h1
        obtain ⟨ss, rfl, hss⟩ := isL_inv h2
        obtain ⟨fs, rfl, hfs⟩ := isL_inv h3
        obtain ⟨u, rfl, hu⟩ := isE_inv h4
        have e6 : asNs (pNs t) = t := asNs_mk t
        have e7 : asNs (pNs u) = u := asNs_mk u
        have e4 : asL (pL ss) = ss := asL_mk ss
        have e5 : asL (pL fs) = fs := asL_mk fs
        have M := holds_inv h12
        rw [e6, e7, e4, e5] at M
        rw [e4] at h10
        rw [e6] at h11
        rw [Nat.eq_of_beq_eq_true h7, Nat.eq_of_beq_eq_true h8, h5, h6, e4, e5, e6]
        have := fm_loop t ht h11 s ss f fs hss hfs h9 h10 u hu M t.length 0 (by omega)
        rw [List.take_zero] at this
        exact this
      · cases hl)) (fm_any n l m k hw)
  exact hc.lawTop (w := w) (vals := [v, v']) (PReps.cons hv (PReps.cons hv' (PReps.nil _ _))) hgl
end
end Go.Proofs.YtbknfkdjhajimaaGreatDoor
