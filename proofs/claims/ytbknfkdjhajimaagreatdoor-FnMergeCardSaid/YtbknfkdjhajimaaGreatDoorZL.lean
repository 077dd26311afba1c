/- The program's kill, by the reckoner: what is stated.
Trees (printed by vx/trees.sh; numbers of one seat).
The program's kill, by the reckoner: proofs.
The program's kill and what there is, by the reckoner, second part: what is stated.
Trees (printed by vx/trees.sh; numbers of one seat).
The program's kill and what there is, by the reckoner, second part: proofs.
The program's places, values and kill, by the reckoner, third part: what is stated.
Trees (printed by vx/trees.sh; numbers of one seat).
The program's places, values and kill, by the reckoner, third part: proofs.
The law of killing in a tree, by the reckoner: what is stated.
Trees (printed by vx/trees.sh; numbers of one seat).
The law of killing in a tree, by the reckoner: proofs.
What storing does to a tree: plain laws.
One element goes into an own list: what the contract says, given the walk; lists.
More helpers for functions by the reckoner: conditions taken apart, lists of numbers.
slices.Insert at nodes: the walk.
Storing into a tree, by the reckoner: what is stated.
Trees (printed by vx/trees.sh; numbers of one seat).
Storing into a tree, by the reckoner: proofs.
What merging does to a tree: plain laws. -/
import Derived.Test.YtbknfkdjhajimaaGreatDoorZE
import Derived.Laws.CopyRow
import Derived.Test.YtbknfkdjhajimaaGreatDoorVxC
import Derived.Lib.Overlaps
import Derived.Lib.AppendZerosOnto
import Derived.Laws.Externs
import Derived.Laws.IdiomCopy
import Derived.WalkKit
import Derived.Lib.Walk
import Derived.Lib.SliceRun
import Derived.OwnWalk
import Derived.Deep.RegionLaw
namespace Go.Proofs.YtbknfkdjhajimaaGreatDoor
section
open Go.RowKit
set_option linter.unusedVariables false

abbrev lp_EqS : List (Nat × List Nat × List Nat) := [(4, [0, 1, 12, 13], [4])]
noncomputable def LO_EqS : LoopT := fun _ ls => match ls with
  | [(.pv p, none), (.pv q, none), (.pv (.int .i64 n), none), (.pv (.int .i64 i), none)] =>
    [(isL p && isL q && (n == ((asL p).length : Int)) && (i == 0) && Nat.beq (asL p).length (asL q).length && !sameX (asL p) (asL q), .ret, [aB false]), (isL p && isL q && (n == ((asL p).length : Int)) && (i == 0) && Nat.beq (asL p).length (asL q).length, .exit 0, [aX])]
  | _ => []
noncomputable def r_EqS (br : Br) (xs ys : List ByteArray) (i : Int) := rdB br Tryz.prog [] lp_EqS LO_EqS Tryz.f101 4 [] [aP (pL xs), aP (pL ys), aI xs.length, aI i]
noncomputable def q_EqS (br : Br) (xs ys : List ByteArray) := evB br Tryz.prog [] lp_EqS LO_EqS Tryz.f101 [cP (pL xs), cP (pL ys)]
noncomputable def iba0 : List (FuncId × Entry) := (101, E_l02Same) :: iab9
noncomputable def q_begins (br : Br) (xs ys : List ByteArray) := evB br Tryz.prog iba0 [] LO0 Tryz.f66 [cP (pL xs), cP (pL ys)]
noncomputable def iba1 : List (FuncId × Entry) := (66, E_l03Begins) :: iba0
noncomputable def q_atOrBelow (br : Br) (x : NodeT) (s : ByteArray) (xs : List ByteArray) := evB br Tryz.prog iba1 [] LO0 Tryz.f67 [cP (pN x), cS s, cP (pL xs)]
noncomputable def iba2 : List (FuncId × Entry) := (67, E_l03In) :: iba1
/-- The closure of kill: its variables lie in cells that nobody writes any more. -/
abbrev kcl (s : ByteArray) (xs : List ByteArray) : PV := .clo 130 [.ref [.str s], .ref [pL xs]]
noncomputable def E_kill1 : Entry := fun ivs => match ivs with
  | [.cv (.pv p), .cv (.pv (.ref [.str s])), .cv (.pv (.ref [q]))] => [(isN p && isL q, cB (inX (asN p) s (asL q)), [])]
  | _ => []
noncomputable def q_kill1 (br : Br) (x : NodeT) (s : ByteArray) (xs : List ByteArray) := evB br Tryz.prog iba2 [] LO0 Tryz.f130 [cP (pN x), cP (.ref [.str s]), cP (.ref [pL xs])]
noncomputable def iba3 : List (FuncId × Entry) := (130, E_kill1) :: iba2
/-- The first that is to go. -/
noncomputable def goIdx (t : List NodeT) (s : ByteArray) (xs : List ByteArray) : Nat := (t.takeWhile fun x => !inX x s xs).length
abbrev lp_IdxN : List (Nat × List Nat × List Nat) := [(2, [0, 1, 7, 8], [4])]
noncomputable def LO_IdxN : LoopT := fun _ ls => match ls with
  | [(.pv p, none), (.pv (.clo f [.ref [.str s], .ref [q]]), none), (.pv (.int .i64 n), none), (.pv (.int .i64 i), none)] =>
    [(isNs p && isL q && Nat.beq f 130 && (n == ((asNs p).length : Int)) && (i == 0) && decide (goIdx (asNs p) s (asL q) < (asNs p).length), .ret, [aI (goIdx (asNs p) s (asL q))]),
     (isNs p && isL q && Nat.beq f 130 && (n == ((asNs p).length : Int)) && (i == 0), .exit 0, [aX])]
  | _ => []
noncomputable def r_IdxN (br : Br) (t : List NodeT) (s : ByteArray) (xs : List ByteArray) (i : Int) := rdB br Tryz.prog iba3 lp_IdxN LO_IdxN Tryz.f144 2 [] [aP (pNs t), aP (kcl s xs), aI t.length, aI i]
noncomputable def q_IdxN (br : Br) (t : List NodeT) (s : ByteArray) (xs : List ByteArray) := evB br Tryz.prog iba3 lp_IdxN LO_IdxN Tryz.f144 [cP (pNs t), cP (kcl s xs)]
noncomputable def E_IdxN : Entry := fun ivs => match ivs with
  | [.cv (.pv p), .cv (.pv (.clo f [.ref [.str s], .ref [q]]))] => [(isNs p && isL q && Nat.beq f 130, cI (if goIdx (asNs p) s (asL q) < (asNs p).length then goIdx (asNs p) s (asL q) else -1), [])]
  | _ => []
noncomputable def iba4 : List (FuncId × Entry) := (144, E_IdxN) :: iba3
end

section
set_option linter.unusedVariables false
set_option maxRecDepth 100000
theorem r_EqS_eq (xs : List ByteArray) (ys : List ByteArray) (i : Int) : r_EqS brC xs ys i =
 brC (decide (i < (↑(List.length xs) : Int)))
  (brC (decide (0 ≤ i) && decide (i < (↑(List.length xs) : Int)))
    (brC (Nat.blt 0 (List.length (List.drop (Int.toNat i * 1) (List.map PV.str xs))) && PV.isStr (List.headD (List.drop (Int.toNat i * 1) (List.map PV.str xs)) PV.nilp) && true)
      (brC (decide (0 ≤ i) && decide (i < (↑(List.length ys) : Int)))
        (brC (Nat.blt 0 (List.length (List.drop (Int.toNat i * 1) (List.map PV.str ys))) && PV.isStr (List.headD (List.drop (Int.toNat i * 1) (List.map PV.str ys)) PV.nilp) && true)
          (brC (!ByteArray.toList (PV.asStr (List.headD (List.drop (Int.toNat i * 1) (List.map PV.str xs)) PV.nilp)) == ByteArray.toList (PV.asStr (List.headD (List.drop (Int.toNat i * 1) (List.map PV.str ys)) PV.nilp)))
            (some (Sum.inr (Ex.ret, [(AV.pv (PV.bool false), none)])))
            (some (Sum.inl [(AV.pv (PV.sl (List.length xs) (List.map PV.str xs)), none), (AV.pv (PV.sl (List.length ys) (List.map PV.str ys)), none), (AV.pv (PV.int IntKind.i64 (↑(List.length xs) : Int)), none), (AV.pv (PV.int IntKind.i64 (IntKind.wrap IntKind.i64 (i + 1))), none)])))
          (none))
        (none))
      (none))
    (none))
  (some (Sum.inr (Ex.exit 0, [(AV.bad, none)]))) := by kernel_rfl
theorem q_kill1_eq (x : NodeT) (s : ByteArray) (xs : List ByteArray) : q_kill1 brC x s xs =
 brC (isN (PV.agg [PV.str (NodeT.name x), PV.sl (List.length (NodeT.subs x)) (List.map PV.str (NodeT.subs x)), PV.str (NodeT.value x)]) && isL (PV.sl (PV.slN (List.headD [pL xs] PV.nilp)) (PV.slL (List.headD [pL xs] PV.nilp))))
  (some ((IV.cv (CV.pv (PV.bool (inX (asN (PV.agg [PV.str (NodeT.name x), PV.sl (List.length (NodeT.subs x)) (List.map PV.str (NodeT.subs x)), PV.str (NodeT.value x)])) (PV.asStr (List.headD [PV.str s] PV.nilp)) (asL (PV.sl (PV.slN (List.headD [pL xs] PV.nilp)) (PV.slL (List.headD [pL xs] PV.nilp))))))), [])))
  (none) := by kernel_rfl
theorem q_EqS_eq (xs : List ByteArray) (ys : List ByteArray) : q_EqS brC xs ys =
 brC ((↑(List.length xs) : Int) != (↑(List.length ys) : Int))
  (some ((IV.cv (CV.pv (PV.bool false)), [])))
  (brC (isL (pL xs) && isL (pL ys) && (↑(List.length xs) : Int) == (↑(List.length (asL (pL xs))) : Int) && 0 == 0 && Nat.beq (List.length (asL (pL xs))) (List.length (asL (pL ys))) && !sameX (asL (pL xs)) (asL (pL ys)))
    (some ((IV.cv (CV.pv (PV.bool false)), [])))
    (brC (isL (pL xs) && isL (pL ys) && (↑(List.length xs) : Int) == (↑(List.length (asL (pL xs))) : Int) && 0 == 0 && Nat.beq (List.length (asL (pL xs))) (List.length (asL (pL ys))))
      (some ((IV.cv (CV.pv (PV.bool true)), [])))
      (none))) := by kernel_rfl
theorem r_IdxN_eq (t : List NodeT) (s : ByteArray) (xs : List ByteArray) (i : Int) : r_IdxN brC t s xs i =
 brC (decide (i < (↑(List.length t) : Int)))
  (brC (decide (0 ≤ i) && decide (i < (↑(List.length t) : Int)))
    (brC (Nat.ble 3 (List.length (List.drop (Int.toNat i * 3) (encN t))) && (PV.isStr (List.headD (List.drop (Int.toNat i * 3) (encN t)) PV.nilp) && (PV.isSl (List.headD (List.tail (List.drop (Int.toNat i * 3) (encN t))) PV.nilp) && (PV.isStr (List.headD (List.tail (List.tail (List.drop (Int.toNat i * 3) (encN t)))) PV.nilp) && true && true) && true) && true) && true)
      (brC (isN (PV.agg [PV.str (PV.asStr (List.headD (List.drop (Int.toNat i * 3) (encN t)) PV.nilp)), PV.sl (PV.slN (List.headD (List.tail (List.drop (Int.toNat i * 3) (encN t))) PV.nilp)) (PV.slL (List.headD (List.tail (List.drop (Int.toNat i * 3) (encN t))) PV.nilp)), PV.str (PV.asStr (List.headD (List.tail (List.tail (List.drop (Int.toNat i * 3) (encN t)))) PV.nilp))]) && isL (pL xs))
        (brC (inX (asN (PV.agg [PV.str (PV.asStr (List.headD (List.drop (Int.toNat i * 3) (encN t)) PV.nilp)), PV.sl (PV.slN (List.headD (List.tail (List.drop (Int.toNat i * 3) (encN t))) PV.nilp)) (PV.slL (List.headD (List.tail (List.drop (Int.toNat i * 3) (encN t))) PV.nilp)), PV.str (PV.asStr (List.headD (List.tail (List.tail (List.drop (Int.toNat i * 3) (encN t)))) PV.nilp))])) s (asL (pL xs)))
          (some (Sum.inr (Ex.ret, [(AV.pv (PV.int IntKind.i64 i), none)])))
          (some (Sum.inl [(AV.pv (PV.sl (List.length t) (encN t)), none), (AV.pv (PV.clo 130 [PV.ref [PV.str s], PV.ref [PV.sl (List.length xs) (List.map PV.str xs)]]), none), (AV.pv (PV.int IntKind.i64 (↑(List.length t) : Int)), none), (AV.pv (PV.int IntKind.i64 (IntKind.wrap IntKind.i64 (i + 1))), none)])))
        (none))
      (none))
    (none))
  (some (Sum.inr (Ex.exit 0, [(AV.bad, none)]))) := by kernel_rfl
theorem q_atOrBelow_eq (x : NodeT) (s : ByteArray) (xs : List ByteArray) : q_atOrBelow brC x s xs =
 brC (ByteArray.toList (NodeT.name x) == ByteArray.toList s)
  (brC (isL (PV.sl (List.length (NodeT.subs x)) (List.map PV.str (NodeT.subs x))) && isL (PV.sl (List.length xs) (List.map PV.str xs)))
    (some ((IV.cv (CV.pv (PV.bool (begX (asL (PV.sl (List.length (NodeT.subs x)) (List.map PV.str (NodeT.subs x)))) (asL (PV.sl (List.length xs) (List.map PV.str xs)))))), [])))
    (none))
  (some ((IV.cv (CV.pv (PV.bool false)), []))) := by kernel_rfl
theorem q_begins_eq (xs : List ByteArray) (ys : List ByteArray) : q_begins brC xs ys =
 brC (decide ((↑(List.length xs) : Int) ≥ (↑(List.length ys) : Int)))
  (brC (decide (0 ≤ 0) && decide (0 ≤ (↑(List.length ys) : Int)) && decide ((↑(List.length ys) : Int) ≤ (↑(List.length xs) : Int)) && true && true)
    (brC (isL (PV.sl (Int.toNat (↑(List.length ys) : Int) - 0) (List.take ((Int.toNat (↑(List.length ys) : Int) - 0) * 1) (List.drop (0 * 1) (List.map PV.str xs)))) && isL (PV.sl (List.length ys) (List.map PV.str ys)))
      (some ((IV.cv (CV.pv (PV.bool (sameX (asL (PV.sl (Int.toNat (↑(List.length ys) : Int) - 0) (List.take ((Int.toNat (↑(List.length ys) : Int) - 0) * 1) (List.drop (0 * 1) (List.map PV.str xs))))) (asL (PV.sl (List.length ys) (List.map PV.str ys)))))), [])))
      (none))
    (none))
  (some ((IV.cv (CV.pv (PV.bool false)), []))) := by kernel_rfl
theorem q_IdxN_eq (t : List NodeT) (s : ByteArray) (xs : List ByteArray) : q_IdxN brC t s xs =
 brC (isNs (pNs t) && isL (pL xs) && Nat.beq 130 130 && (↑(List.length t) : Int) == (↑(List.length (asNs (pNs t))) : Int) && 0 == 0 && decide (goIdx (asNs (pNs t)) s (asL (pL xs)) < List.length (asNs (pNs t))))
  (some ((IV.cv (CV.pv (PV.int IntKind.i64 (↑(goIdx (asNs (pNs t)) s (asL (pL xs))) : Int))), [])))
  (brC (isNs (pNs t) && isL (pL xs) && Nat.beq 130 130 && (↑(List.length t) : Int) == (↑(List.length (asNs (pNs t))) : Int) && 0 == 0)
    (some ((IV.cv (CV.pv (PV.int IntKind.i64 (Int.negSucc 0))), [])))
    (none)) := by kernel_rfl
end

section
open Go.RowKit
set_option linter.unusedVariables false
set_option linter.unusedSimpArgs false
set_option maxRecDepth 100000

theorem EqS_loop (xs ys : List ByteArray) (h : shL xs) (k : shL ys) (hlen : xs.length = ys.length) : LoopsTo (rdB brC Tryz.prog [] lp_EqS LO_EqS Tryz.f101 4 []) [aP (pL xs), aP (pL ys), aI xs.length, aI 0]
    (if sameX xs ys = true then (.exit 0, [aX]) else (.ret, [aB false])) := by
  have := rangeLoop0 (f := rdB brC Tryz.prog [] lp_EqS LO_EqS Tryz.f101 4 []) (xs.zip ys) (fun i (_ : Unit) => [aP (pL xs), aP (pL ys), aI xs.length, aI i])
    (fun z _ => if sEq z.1 z.2 = true then .inl () else .inr (.ret, [aB false])) (fun _ => (.exit 0, [aX])) (fun _ _ => True) ?_ ?_ (b := ()) trivial
  · rw [same_fold _ _ hlen] at this
    exact this
  · intro i hi _ _
    have hl := h.1
    rw [List.length_zip] at hi
    have hix : i < xs.length := by omega
    have hiy : i < ys.length := by omega
    have tree := r_EqS_eq xs ys i
    simp (disch := omega) only [dT, Int.toNat_natCast, drop_strs xs i hix, drop_strs ys i hiy, List.length_cons, List.headD_cons, PV.isStr, PV.asStr, blt0, wrap1, Bool.and_true] at tree
    rw [List.getElem_zip]
    cases hb : sEq xs[i] ys[i] with
    | true =>
      have hb' : (ByteArray.toList xs[i] == ByteArray.toList ys[i]) = true := hb
      rw [hb'] at tree
      exact .inl ⟨(), rfl, trivial, tree⟩
    | false =>
      have hb' : (ByteArray.toList xs[i] == ByteArray.toList ys[i]) = false := hb
      rw [hb'] at tree
      exact .inr ⟨_, rfl, tree⟩
  · intro _ _
    refine (r_EqS_eq xs ys (xs.zip ys).length).trans ?_
    rw [List.length_zip, ← hlen, Nat.min_self, dF (by omega)]
    rfl
theorem ok_EqS : EntryOk Tryz.prog 101 E_l02Same := entry_of mix (tab := []) trivial (lp := lp_EqS) (LO := LO_EqS) ⟨Tryz.func101, by kernel_rfl, by kernel_rfl⟩ (by kernel_rfl) fun ivs res bxs h => by
  unfold E_l02Same at h
  split at h
  · rename_i p q
    obtain ⟨hc, he⟩ := pick1 h
    cases he
    rw [Bool.and_eq_true] at hc
    obtain ⟨xs, rfl, hx⟩ := isL_inv hc.1
    obtain ⟨ys, rfl, hy⟩ := isL_inv hc.2
    refine ⟨oneLoop 4 (by kernel_rfl) (by kernel_rfl) (by kernel_rfl) ?_, (q_EqS_eq xs ys).trans ?_⟩
    · intro ls e ls' hl
      unfold LO_EqS at hl
      split at hl
      · rename_i p q n i
        cases hg : (isL p && isL q && (n == ((asL p).length : Int)) && (i == 0)) with
        | false => rw [hg] at hl; simp only [pickA, Bool.false_and, cond_false] at hl; cases hl
        | true =>
          rw [hg, Bool.true_and] at hl
          simp only [Bool.and_eq_true, beq_iff_eq] at hg
          obtain ⟨⟨⟨g1, g2⟩, g3⟩, g4⟩ := hg
          obtain ⟨us, rfl, hu⟩ := isL_inv g1
          obtain ⟨vs, rfl, hv⟩ := isL_inv g2
          simp only [asL_mk] at hl g3
          subst g4
          subst g3
          cases hlen : Nat.beq us.length vs.length with
          | false => rw [hlen] at hl; simp only [pickA, Bool.false_and, cond_false] at hl; cases hl
          | true =>
            rw [hlen, Bool.true_and] at hl
            have := EqS_loop us vs hu hv (Nat.eq_of_beq_eq_true hlen)
            cases ha : sameX us vs <;> rw [ha] at hl this <;> cases hl <;> exact this
      · cases hl
    · simp only [isL_mk hx, isL_mk hy, asL_mk, beq_self_eq_true, Bool.and_true, Bool.true_and]
      by_cases hlen : xs.length = ys.length
      · have e1 : ((xs.length : Int) != (ys.length : Int)) = false := by simp [hlen]
        have e2 : Nat.beq xs.length ys.length = true := by rw [hlen]; exact Nat.beq_refl _
        rw [e1, e2]
        cases sameX xs ys <;> rfl
      · have e1 : ((xs.length : Int) != (ys.length : Int)) = true := by simp; omega
        have e3 : sameX xs ys = false := by
          cases hs : sameX xs ys with
          | false => rfl
          | true => exact absurd (by rw [holds_inv hs]) hlen
        rw [e1, e3]
        rfl
  · cases h
theorem ok_iba0 : EntriesOk Tryz.prog iba0 := ⟨ok_EqS, ok_iab9⟩
theorem ok_begins : EntryOk Tryz.prog 66 E_l03Begins := entry_of mix ok_iba0 (lp := []) (LO := LO0) ⟨Tryz.func66, by kernel_rfl, by kernel_rfl⟩ (by kernel_rfl) fun ivs res bxs h => by
  unfold E_l03Begins at h
  split at h
  · rename_i p q
    obtain ⟨hc, he⟩ := pick1 h
    cases he
    rw [Bool.and_eq_true] at hc
    obtain ⟨xs, rfl, hx⟩ := isL_inv hc.1
    obtain ⟨ys, rfl, hy⟩ := isL_inv hc.2
    refine ⟨noLoop (by kernel_rfl), (q_begins_eq xs ys).trans ?_⟩
    simp only [asL_mk]
    unfold begX
    by_cases hl : ys.length ≤ xs.length
    · have hlen : (xs.take ys.length).length = ys.length := by rw [List.length_take]; omega
      have hsh : shL (xs.take ys.length) := ⟨Nat.le_trans (List.length_take_le' _ _) hx.1, fun s hs => hx.2 s (List.mem_of_mem_take hs)⟩
      have e : PV.sl (Int.toNat (ys.length : Int) - 0) (List.take ((Int.toNat (ys.length : Int) - 0) * 1) (List.drop (0 * 1) (List.map PV.str xs))) = PV.sl (xs.take ys.length).length ((xs.take ys.length).map PV.str) := by
        rw [hlen, Int.toNat_natCast, Nat.sub_zero, Nat.mul_one, Nat.zero_mul, List.drop_zero, List.map_take]
      rw [e]
      simp (disch := omega) only [dT, isL_mk hsh, isL_mk hy, asL_mk, Bool.and_true]
      rfl
    · rw [dF (show ¬ (xs.length : Int) ≥ (ys.length : Int) by omega), dF hl]
      rfl
  · cases h
theorem ok_iba1 : EntriesOk Tryz.prog iba1 := ⟨ok_begins, ok_iba0⟩
theorem ok_atOrBelow : EntryOk Tryz.prog 67 E_l03In := entry_of mix ok_iba1 (lp := []) (LO := LO0) ⟨Tryz.func67, by kernel_rfl, by kernel_rfl⟩ (by kernel_rfl) fun ivs res bxs h => by
  unfold E_l03In at h
  split at h
  · rename_i p s q
    obtain ⟨hc, he⟩ := pick1 h
    cases he
    rw [Bool.and_eq_true] at hc
    obtain ⟨x, rfl, hx⟩ := isE_inv hc.1
    obtain ⟨ys, rfl, hy⟩ := isL_inv hc.2
    refine ⟨noLoop (by kernel_rfl), (q_atOrBelow_eq x s ys).trans ?_⟩
    simp only [asN_mk, asL_mk, isL_mk hx.2.1, isL_mk hy]
    unfold inX
    show brC (sEq x.name s) _ _ = some (cB (sEq x.name s && _), [])
    cases sEq x.name s <;> rfl
  · cases h
theorem ok_iba2 : EntriesOk Tryz.prog iba2 := ⟨ok_atOrBelow, ok_iba1⟩
theorem ok_kill1 : EntryOk Tryz.prog 130 E_kill1 := entry_of mix ok_iba2 (lp := []) (LO := LO0) ⟨Tryz.func130, by kernel_rfl, by kernel_rfl⟩ (by kernel_rfl) fun ivs res bxs h => by
  unfold E_kill1 at h
  split at h
  · rename_i p s q
    obtain ⟨hc, he⟩ := pick1 h
    cases he
    rw [Bool.and_eq_true] at hc
    obtain ⟨x, rfl, hx⟩ := isE_inv hc.1
    obtain ⟨ys, rfl, hy⟩ := isL_inv hc.2
    refine ⟨noLoop (by kernel_rfl), (q_kill1_eq x s ys).trans ?_⟩
    show brC (isN (pN x) && isL (pL ys)) _ none = _
    rw [hc.1, hc.2]
    rfl
  · cases h
theorem ok_iba3 : EntriesOk Tryz.prog iba3 := ⟨ok_kill1, ok_iba2⟩
theorem goIdx_nil (s : ByteArray) (xs : List ByteArray) : goIdx [] s xs = 0 := rfl
theorem goIdx_in {x : NodeT} {t : List NodeT} {s : ByteArray} {xs : List ByteArray} (h : inX x s xs = true) : goIdx (x :: t) s xs = 0 := by
  unfold goIdx
  rw [List.takeWhile_cons, h]
  rfl
theorem goIdx_out {x : NodeT} {t : List NodeT} {s : ByteArray} {xs : List ByteArray} (h : inX x s xs = false) : goIdx (x :: t) s xs = goIdx t s xs + 1 := by
  unfold goIdx
  rw [List.takeWhile_cons, h]
  rfl
theorem IdxN_loop (t : List NodeT) (h : shT t) (s : ByteArray) (xs : List ByteArray) (hx : shL xs) : ∀ (m i : Nat), m + i = t.length → LoopsTo (rdB brC Tryz.prog iba3 lp_IdxN LO_IdxN Tryz.f144 2 []) [aP (pNs t), aP (kcl s xs), aI t.length, aI i]
    (if goIdx (t.drop i) s xs + i < t.length then (.ret, [aI ((goIdx (t.drop i) s xs + i : Nat) : Int)]) else (.exit 0, [aX])) := by
  have hl := h.1
  intro m
  induction m with
  | zero =>
    intro i hm
    obtain rfl : i = t.length := by omega
    rw [List.drop_length, goIdx_nil, if_neg (by omega)]
    refine .done _ _ ((r_IdxN_eq t s xs t.length).trans ?_)
    rw [dF (by omega)]
    rfl
  | succ m ih =>
    intro i hm
    have hi : i < t.length := by omega
    have hs := shN_at h hi
    have ih' := ih (i + 1) (by omega)
    have tree := r_IdxN_eq t s xs i
    have e2 : isL (pL xs) = true := isL_mk hx
    have e3 : asL (pL xs) = xs := asL_mk xs
    simp (disch := omega) only [dT, Int.toNat_natCast, drop_encN t i hi, List.length_cons, List.headD_cons, List.tail_cons, PV.isStr, PV.asStr, PV.isSl, PV.slN, PV.slL, ble3, wrap1, Bool.and_true, isN_mk hs, asN_mk, e2, e3] at tree
    rw [List.drop_eq_getElem_cons hi]
    cases hin : inX t[i] s xs with
    | true =>
      rw [hin] at tree
      rw [goIdx_in hin, Nat.zero_add, if_pos hi]
      exact .done _ _ tree
    | false =>
      rw [hin] at tree
      rw [goIdx_out hin]
      have e : goIdx (t.drop (i + 1)) s xs + (i + 1) = goIdx (t.drop (i + 1)) s xs + 1 + i := by omega
      rw [e] at ih'
      exact .step _ _ _ tree ih'
theorem ok_IdxN : EntryOk Tryz.prog 144 E_IdxN := entry_of mix ok_iba3 (lp := lp_IdxN) (LO := LO_IdxN) ⟨Tryz.func144, by kernel_rfl, by kernel_rfl⟩ (by kernel_rfl) fun ivs res bxs h => by
  unfold E_IdxN at h
  split at h
  · rename_i p f s q
    obtain ⟨hc, he⟩ := pick1 h
    cases he
    simp only [Bool.and_eq_true] at hc
    obtain ⟨⟨h1, h2⟩, h3⟩ := hc
    obtain ⟨t, rfl, ht⟩ := isE_inv h1
    obtain ⟨xs, rfl, hx⟩ := isL_inv h2
    obtain rfl := Nat.eq_of_beq_eq_true h3
    refine ⟨oneLoop 2 (by kernel_rfl) (by kernel_rfl) (by kernel_rfl) ?_, (q_IdxN_eq t s xs).trans ?_⟩
    · intro ls e ls' hl
      unfold LO_IdxN at hl
      split at hl
      · rename_i p f s q n i
        cases hg : (isNs p && isL q && Nat.beq f 130 && (n == ((asNs p).length : Int)) && (i == 0)) with
        | false => rw [hg] at hl; simp only [pickA, Bool.false_and, cond_false] at hl; cases hl
        | true =>
          rw [hg, Bool.true_and] at hl
          simp only [Bool.and_eq_true, beq_iff_eq] at hg
          obtain ⟨⟨⟨⟨g1, g2⟩, g3⟩, g4⟩, g5⟩ := hg
          obtain ⟨u, rfl, hu⟩ := isE_inv g1
          obtain ⟨ys, rfl, hy⟩ := isL_inv g2
          simp only [asNs_mk, asL_mk] at hl g4
          rw [Nat.eq_of_beq_eq_true g3, g4, g5]
          have := IdxN_loop u hu s ys hy u.length 0 (by omega)
          rw [List.drop_zero, Nat.add_zero] at this
          by_cases hlt : goIdx u s ys < u.length
          · rw [dT hlt] at hl
            rw [if_pos hlt] at this
            cases hl
            exact this
          · rw [dF hlt] at hl
            rw [if_neg hlt] at this
            cases hl
            exact this
      · cases hl
    · simp only [isNs_mk ht, isL_mk hx, asNs_mk, asL_mk, beq_self_eq_true, Bool.and_true, Bool.true_and, Nat.beq_refl]
      by_cases hlt : goIdx t s xs < t.length
      · rw [dT hlt, if_pos hlt]
        rfl
      · rw [dF hlt, if_neg hlt]
        rfl
  · cases h
theorem ok_iba4 : EntriesOk Tryz.prog iba4 := ⟨ok_IdxN, ok_iba3⟩
end

section
open Go.RowKit
set_option linter.unusedVariables false

abbrev lp_DelN : List (Nat × List Nat × List Nat) := [(1000000, [38], []), (5, [0, 1, 5, 6], [0, 5])]
noncomputable def LO_DelN : LoopT := fun _ ls => match ls with
  | [(.own x, some (.lst 3 e n l true)), (.pv (.clo f [.ref [.str s], .ref [q]]), none), (.pv (.int .i64 i), none), (.pv (.int .i64 j), none)] =>
    [(isNs (.sl n l) && isL q && Nat.beq f 130 && Nat.beq e 33 && Nat.beq x 0 && (i == (goIdx (asNs (.sl n l)) s (asL q) : Int)) && (j == ((goIdx (asNs (.sl n l)) s (asL q) : Int) + 1)) && decide (goIdx (asNs (.sl n l)) s (asL q) < (asNs (.sl n l)).length),
      .exit 0, [aM 0 3 33 n (encN (killT (asNs (.sl n l)) s (asL q) ++ (asNs (.sl n l)).drop (killT (asNs (.sl n l)) s (asL q)).length)), aI (killT (asNs (.sl n l)) s (asL q)).length])]
  | _ => []
noncomputable def r_DelN (br : Br) (u : List NodeT) (s : ByteArray) (xs : List ByteArray) (i j : Int) := rdB br Tryz.prog iba4 lp_DelN LO_DelN Tryz.f129 5 [] [aM 0 3 33 u.length (encN u), aP (kcl s xs), aI i, aI j]
noncomputable def q_DelN (br : Br) (t : List NodeT) (s : ByteArray) (xs : List ByteArray) := evB br Tryz.prog iba4 lp_DelN LO_DelN Tryz.f129 [.cv (lN t), cP (kcl s xs)]
noncomputable def q_DelN0 (br : Br) (s : ByteArray) (xs : List ByteArray) := evB br Tryz.prog iba4 lp_DelN LO_DelN Tryz.f129 [cP (.sl 0 []), cP (kcl s xs)]
noncomputable def E_DelN : Entry := fun ivs => match ivs with
  | [.cv (.lst 3 e n l true), .cv (.pv (.clo f [.ref [.str s], .ref [q]]))] =>
    [(isNs (.sl n l) && isL q && Nat.beq f 130 && Nat.beq e 33 && decide (goIdx (asNs (.sl n l)) s (asL q) < (asNs (.sl n l)).length), cP (pNs (killT (asNs (.sl n l)) s (asL q))), []),
     (isNs (.sl n l) && isL q && Nat.beq f 130 && Nat.beq e 33, .cv (.lst 3 33 n l true), [])]
  | [.cv (.pv (.sl 0 [])), .cv (.pv (.clo f [.ref [.str s], .ref [q]]))] => [(isL q && Nat.beq f 130, cP (.sl 0 []), [])]
  | _ => []
noncomputable def iba5 : List (FuncId × Entry) := (129, E_DelN) :: iba4
abbrev lp_kill : List (Nat × List Nat × List Nat) := [(1000000, [], [10]), (1000001, [192], [])]
noncomputable def q_kill (br : Br) (t : List NodeT) (s : ByteArray) (xs : List ByteArray) := evB br Tryz.prog iba5 lp_kill LO0 Tryz.f109 [.box 0 [lN t], cS s, cP (pL xs)]
noncomputable def q_kill0 (br : Br) (s : ByteArray) (xs : List ByteArray) := evB br Tryz.prog iba5 lp_kill LO0 Tryz.f109 [.box 0 [.pv .nils], cS s, cP (pL xs)]
noncomputable def q_copyNode (br : Br) (x : NodeT) := evB br Tryz.prog iba5 [] LO0 Tryz.f65 [cP (pN x)]
noncomputable def E_copyNode : Entry := fun ivs => match ivs with | [.cv (.pv p)] => [(isN p, .agg [.pv (.str (asN p).name), .pv (pL (asN p).subs), .pv (.str (asN p).value)], [])] | _ => []
noncomputable def iba6 : List (FuncId × Entry) := (65, E_copyNode) :: iba5
abbrev lp_copyTree : List (Nat × List Nat × List Nat) := [(1000000, [19], [15, 22]), (3, [2, 3, 8, 9, 10], [2, 3])]
noncomputable def LO_copyTree : LoopT := fun _ ls => match ls with
  | [(.ptr x 0, some (.box [.pv .nils])), (.ptr y 0, some (.box [.pv .nils])), (.pv p, none), (.pv (.int .i64 n), none), (.pv (.int .i64 i), none)] =>
    [(isNs p && Nat.beq x 8192 && Nat.beq y 12288 && (n == ((asNs p).length : Int)) && (i == 0) && holds (asNs p = []), .exit 0, [aBx 2 [.pv .nils], aBx 3 [.pv .nils]]),
     (isNs p && Nat.beq x 8192 && Nat.beq y 12288 && (n == ((asNs p).length : Int)) && (i == 0), .exit 0, [aBx 2 [.pv .nils], aBx 3 [lN (asNs p)]])]
  | _ => []
noncomputable def r_copyTree0 (br : Br) (t : List NodeT) (i : Int) := rdB br Tryz.prog iba6 lp_copyTree LO_copyTree Tryz.f26 3 [] [aBx 2 [.pv .nils], aBx 3 [.pv .nils], aP (pNs t), aI t.length, aI i]
noncomputable def r_copyTree (br : Br) (t u : List NodeT) (i : Int) := rdB br Tryz.prog iba6 lp_copyTree LO_copyTree Tryz.f26 3 [] [aBx 2 [.pv .nils], aBx 3 [lN u], aP (pNs t), aI t.length, aI i]
noncomputable def q_copyTree (br : Br) (t : List NodeT) := evB br Tryz.prog iba6 lp_copyTree LO_copyTree Tryz.f26 [cP (pT t)]
abbrev lp_data : List (Nat × List Nat × List Nat) := [(3, [1, 2, 7, 11, 12, 13], [7])]
/-- What there is at a place, and below it. -/
noncomputable def dataF (s : ByteArray) (xs : List ByteArray) : List NodeT → Int → Int
  | [], c => c
  | x :: t, c => dataF s xs t (if inX x s xs = true then (if x.subs.length = xs.length then c + 1 else if c < 10 then c + 10 else c) else c)
noncomputable def LO_data : LoopT := fun _ ls => match ls with
  | [(.pv (.str s), none), (.pv q, none), (.pv (.int .i64 c), none), (.pv p, none), (.pv (.int .i64 n), none), (.pv (.int .i64 i), none)] =>
    [(isNs p && isL q && (n == ((asNs p).length : Int)) && (i == 0) && (c == 0), .exit 0, [aI (dataF s (asL q) (asNs p) 0)])]
  | _ => []
end

section
set_option linter.unusedVariables false
set_option maxRecDepth 100000
theorem q_DelN0_eq (s : ByteArray) (xs : List ByteArray) : q_DelN0 brC s xs =
 brC (isNs (PV.sl 0 []) && isL (pL xs) && Nat.beq 130 130)
  (brC ((if goIdx (asNs (PV.sl 0 [])) s (asL (pL xs)) < List.length (asNs (PV.sl 0 [])) then (↑(goIdx (asNs (PV.sl 0 [])) s (asL (pL xs))) : Int) else -1) == -1)
    (some ((IV.cv (CV.pv (PV.sl 0 [])), [])))
    (none))
  (none) := by kernel_rfl
theorem q_DelN_eq (t : List NodeT) (s : ByteArray) (xs : List ByteArray) : q_DelN brC t s xs =
 brC (isNs (PV.sl (List.length t) (encN t)) && isL (pL xs) && Nat.beq 130 130)
  (brC ((if goIdx (asNs (PV.sl (List.length t) (encN t))) s (asL (pL xs)) < List.length (asNs (PV.sl (List.length t) (encN t))) then (↑(goIdx (asNs (PV.sl (List.length t) (encN t))) s (asL (pL xs))) : Int) else -1) == -1)
    (some ((IV.cv (CV.lst 3 33 (List.length t) (encN t) true), [])))
    (brC (isNs (PV.sl (List.length t) (encN t)) && isL (pL xs) && Nat.beq 130 130 && Nat.beq 33 33 && Nat.beq 0 0 && (if goIdx (asNs (PV.sl (List.length t) (encN t))) s (asL (pL xs)) < List.length (asNs (PV.sl (List.length t) (encN t))) then (↑(goIdx (asNs (PV.sl (List.length t) (encN t))) s (asL (pL xs))) : Int) else -1) == (↑(goIdx (asNs (PV.sl (List.length t) (encN t))) s (asL (pL xs))) : Int) && IntKind.wrap IntKind.i64 ((if goIdx (asNs (PV.sl (List.length t) (encN t))) s (asL (pL xs)) < List.length (asNs (PV.sl (List.length t) (encN t))) then (↑(goIdx (asNs (PV.sl (List.length t) (encN t))) s (asL (pL xs))) : Int) else -1) + 1) == (↑(goIdx (asNs (PV.sl (List.length t) (encN t))) s (asL (pL xs))) : Int) + 1 && decide (goIdx (asNs (PV.sl (List.length t) (encN t))) s (asL (pL xs)) < List.length (asNs (PV.sl (List.length t) (encN t)))))
      (brC (decide (0 ≤ (↑(List.length (killT (asNs (PV.sl (List.length t) (encN t))) s (asL (pL xs)))) : Int)) && decide ((↑(List.length (killT (asNs (PV.sl (List.length t) (encN t))) s (asL (pL xs)))) : Int) ≤ (↑(List.length t) : Int)) && decide ((↑(List.length t) : Int) ≤ (↑(List.length t) : Int)) && true)
        (brC (decide (0 ≤ 0) && decide (0 ≤ (↑(List.length (killT (asNs (PV.sl (List.length t) (encN t))) s (asL (pL xs)))) : Int)) && decide ((↑(List.length (killT (asNs (PV.sl (List.length t) (encN t))) s (asL (pL xs)))) : Int) ≤ (↑(List.length t) : Int)) && true && true)
          (some ((IV.cv (CV.pv (PV.sl (Int.toNat (↑(List.length (killT (asNs (PV.sl (List.length t) (encN t))) s (asL (pL xs)))) : Int) - 0) (List.take ((Int.toNat (↑(List.length (killT (asNs (PV.sl (List.length t) (encN t))) s (asL (pL xs)))) : Int) - 0) * 3) (List.drop (0 * 3) (List.take (Int.toNat (↑(List.length (killT (asNs (PV.sl (List.length t) (encN t))) s (asL (pL xs)))) : Int) * 3) (encN (killT (asNs (PV.sl (List.length t) (encN t))) s (asL (pL xs)) ++ List.drop (List.length (killT (asNs (PV.sl (List.length t) (encN t))) s (asL (pL xs)))) (asNs (PV.sl (List.length t) (encN t))))) ++ List.flatten (List.replicate (List.length t - Int.toNat (↑(List.length (killT (asNs (PV.sl (List.length t) (encN t))) s (asL (pL xs)))) : Int)) [PV.str { data := #[] }, PV.nils, PV.str { data := #[] }])))))), [])))
          (none))
        (none))
      (none)))
  (none) := by kernel_rfl
theorem q_copyTree_eq (t : List NodeT) : q_copyTree brC t =
 brC (isNs (pNs t) && Nat.beq 8192 8192 && Nat.beq 12288 12288 && (↑(List.length t) : Int) == (↑(List.length (asNs (pNs t))) : Int) && 0 == 0 && holds (asNs (pNs t) = []))
  (some ((IV.agg [CV.pv PV.nils], [])))
  (brC (isNs (pNs t) && Nat.beq 8192 8192 && Nat.beq 12288 12288 && (↑(List.length t) : Int) == (↑(List.length (asNs (pNs t))) : Int) && 0 == 0)
    (some ((IV.agg [CV.lst 3 33 (List.length (asNs (pNs t))) (encN (asNs (pNs t))) true], [])))
    (none)) := by kernel_rfl
theorem r_DelN_eq (u : List NodeT) (s : ByteArray) (xs : List ByteArray) (i : Int) (j : Int) : r_DelN brC u s xs i j =
 brC (decide (j < (↑(List.length u) : Int)))
  (brC (decide (0 ≤ j) && decide (j < (↑(List.length u) : Int)))
    (brC (Nat.ble (Int.toNat j * 3) (List.length (encN u)) && (Nat.ble 3 (List.length (List.drop (Int.toNat j * 3) (encN u))) && (PV.isStr (List.headD (List.drop (Int.toNat j * 3) (encN u)) PV.nilp) && (PV.isSl (List.headD (List.tail (List.drop (Int.toNat j * 3) (encN u))) PV.nilp) && (PV.isStr (List.headD (List.tail (List.tail (List.drop (Int.toNat j * 3) (encN u)))) PV.nilp) && true && true) && true) && true) && true))
      (brC (isN (PV.agg [PV.str (PV.asStr (List.headD (List.drop (Int.toNat j * 3) (encN u)) PV.nilp)), PV.sl (PV.slN (List.headD (List.tail (List.drop (Int.toNat j * 3) (encN u))) PV.nilp)) (PV.slL (List.headD (List.tail (List.drop (Int.toNat j * 3) (encN u))) PV.nilp)), PV.str (PV.asStr (List.headD (List.tail (List.tail (List.drop (Int.toNat j * 3) (encN u)))) PV.nilp))]) && isL (pL xs))
        (brC (!inX (asN (PV.agg [PV.str (PV.asStr (List.headD (List.drop (Int.toNat j * 3) (encN u)) PV.nilp)), PV.sl (PV.slN (List.headD (List.tail (List.drop (Int.toNat j * 3) (encN u))) PV.nilp)) (PV.slL (List.headD (List.tail (List.drop (Int.toNat j * 3) (encN u))) PV.nilp)), PV.str (PV.asStr (List.headD (List.tail (List.tail (List.drop (Int.toNat j * 3) (encN u)))) PV.nilp))])) s (asL (pL xs)))
          (brC (decide (0 ≤ i) && decide (i < (↑(List.length u) : Int)))
            (brC (Nat.beq (List.length [PV.str (PV.asStr (List.headD (List.drop (Int.toNat j * 3) (encN u)) PV.nilp)), PV.sl (PV.slN (List.headD (List.tail (List.drop (Int.toNat j * 3) (encN u))) PV.nilp)) (PV.slL (List.headD (List.tail (List.drop (Int.toNat j * 3) (encN u))) PV.nilp)), PV.str (PV.asStr (List.headD (List.tail (List.tail (List.drop (Int.toNat j * 3) (encN u)))) PV.nilp))]) 3 && Nat.ble (Int.toNat i * 3 + 3) (List.length (encN u)))
              (some (Sum.inl [(AV.own 0, some (Ob.lst 3 33 (List.length u) (List.take (Int.toNat i * 3) (encN u) ++ [PV.str (PV.asStr (List.headD (List.drop (Int.toNat j * 3) (encN u)) PV.nilp)), PV.sl (PV.slN (List.headD (List.tail (List.drop (Int.toNat j * 3) (encN u))) PV.nilp)) (PV.slL (List.headD (List.tail (List.drop (Int.toNat j * 3) (encN u))) PV.nilp)), PV.str (PV.asStr (List.headD (List.tail (List.tail (List.drop (Int.toNat j * 3) (encN u)))) PV.nilp))] ++ List.drop (Int.toNat i * 3 + 3) (encN u)) true)), (AV.pv (PV.clo 130 [PV.ref [PV.str s], PV.ref [PV.sl (List.length xs) (List.map PV.str xs)]]), none), (AV.pv (PV.int IntKind.i64 (IntKind.wrap IntKind.i64 (i + 1))), none), (AV.pv (PV.int IntKind.i64 (IntKind.wrap IntKind.i64 (j + 1))), none)]))
              (none))
            (none))
          (some (Sum.inl [(AV.own 0, some (Ob.lst 3 33 (List.length u) (encN u) true)), (AV.pv (PV.clo 130 [PV.ref [PV.str s], PV.ref [PV.sl (List.length xs) (List.map PV.str xs)]]), none), (AV.pv (PV.int IntKind.i64 i), none), (AV.pv (PV.int IntKind.i64 (IntKind.wrap IntKind.i64 (j + 1))), none)])))
        (none))
      (none))
    (none))
  (some (Sum.inr (Ex.exit 0, [(AV.own 0, some (Ob.lst 3 33 (List.length u) (encN u) true)), (AV.pv (PV.int IntKind.i64 i), none)]))) := by kernel_rfl
theorem r_copyTree0_eq (t : List NodeT) (i : Int) : r_copyTree0 brC t i =
 brC (decide (i < (↑(List.length t) : Int)))
  (brC (decide (0 ≤ i) && decide (i < (↑(List.length t) : Int)))
    (brC (Nat.ble 3 (List.length (List.drop (Int.toNat i * 3) (encN t))) && (PV.isStr (List.headD (List.drop (Int.toNat i * 3) (encN t)) PV.nilp) && (PV.isSl (List.headD (List.tail (List.drop (Int.toNat i * 3) (encN t))) PV.nilp) && (PV.isStr (List.headD (List.tail (List.tail (List.drop (Int.toNat i * 3) (encN t)))) PV.nilp) && true && true) && true) && true) && true)
      (brC (isN (PV.agg [PV.str (PV.asStr (List.headD (List.drop (Int.toNat i * 3) (encN t)) PV.nilp)), PV.sl (PV.slN (List.headD (List.tail (List.drop (Int.toNat i * 3) (encN t))) PV.nilp)) (PV.slL (List.headD (List.tail (List.drop (Int.toNat i * 3) (encN t))) PV.nilp)), PV.str (PV.asStr (List.headD (List.tail (List.tail (List.drop (Int.toNat i * 3) (encN t)))) PV.nilp))]))
        (some (Sum.inl [(AV.ptr 8192 0, some (Ob.box [CV.pv PV.nils])), (AV.ptr 12288 0, some (Ob.box [CV.lst 3 33 1 [PV.str (NodeT.name (asN (PV.agg [PV.str (PV.asStr (List.headD (List.drop (Int.toNat i * 3) (encN t)) PV.nilp)), PV.sl (PV.slN (List.headD (List.tail (List.drop (Int.toNat i * 3) (encN t))) PV.nilp)) (PV.slL (List.headD (List.tail (List.drop (Int.toNat i * 3) (encN t))) PV.nilp)), PV.str (PV.asStr (List.headD (List.tail (List.tail (List.drop (Int.toNat i * 3) (encN t)))) PV.nilp))]))), PV.sl (List.length (NodeT.subs (asN (PV.agg [PV.str (PV.asStr (List.headD (List.drop (Int.toNat i * 3) (encN t)) PV.nilp)), PV.sl (PV.slN (List.headD (List.tail (List.drop (Int.toNat i * 3) (encN t))) PV.nilp)) (PV.slL (List.headD (List.tail (List.drop (Int.toNat i * 3) (encN t))) PV.nilp)), PV.str (PV.asStr (List.headD (List.tail (List.tail (List.drop (Int.toNat i * 3) (encN t)))) PV.nilp))])))) (List.map PV.str (NodeT.subs (asN (PV.agg [PV.str (PV.asStr (List.headD (List.drop (Int.toNat i * 3) (encN t)) PV.nilp)), PV.sl (PV.slN (List.headD (List.tail (List.drop (Int.toNat i * 3) (encN t))) PV.nilp)) (PV.slL (List.headD (List.tail (List.drop (Int.toNat i * 3) (encN t))) PV.nilp)), PV.str (PV.asStr (List.headD (List.tail (List.tail (List.drop (Int.toNat i * 3) (encN t)))) PV.nilp))])))), PV.str (NodeT.value (asN (PV.agg [PV.str (PV.asStr (List.headD (List.drop (Int.toNat i * 3) (encN t)) PV.nilp)), PV.sl (PV.slN (List.headD (List.tail (List.drop (Int.toNat i * 3) (encN t))) PV.nilp)) (PV.slL (List.headD (List.tail (List.drop (Int.toNat i * 3) (encN t))) PV.nilp)), PV.str (PV.asStr (List.headD (List.tail (List.tail (List.drop (Int.toNat i * 3) (encN t)))) PV.nilp))])))] true])), (AV.pv (PV.sl (List.length t) (encN t)), none), (AV.pv (PV.int IntKind.i64 (↑(List.length t) : Int)), none), (AV.pv (PV.int IntKind.i64 (IntKind.wrap IntKind.i64 (i + 1))), none)]))
        (none))
      (none))
    (none))
  (some (Sum.inr (Ex.exit 0, [(AV.ptr 8192 0, some (Ob.box [CV.pv PV.nils])), (AV.ptr 12288 0, some (Ob.box [CV.pv PV.nils]))]))) := by kernel_rfl
theorem q_kill_eq (t : List NodeT) (s : ByteArray) (xs : List ByteArray) : q_kill brC t s xs =
 brC (isNs (PV.sl (List.length t) (encN t)) && isL (pL xs) && Nat.beq 130 130 && Nat.beq 33 33 && decide (goIdx (asNs (PV.sl (List.length t) (encN t))) s (asL (pL xs)) < List.length (asNs (PV.sl (List.length t) (encN t)))))
  (some ((IV.tup [], [[CV.pv (PV.sl (List.length (killT (asNs (PV.sl (List.length t) (encN t))) s (asL (pL xs)))) (encN (killT (asNs (PV.sl (List.length t) (encN t))) s (asL (pL xs)))))]])))
  (brC (isNs (PV.sl (List.length t) (encN t)) && isL (pL xs) && Nat.beq 130 130 && Nat.beq 33 33)
    (some ((IV.tup [], [[CV.lst 3 33 (List.length t) (encN t) true]])))
    (none)) := by kernel_rfl
theorem q_copyNode_eq (x : NodeT) : q_copyNode brC x =
 brC (isL (PV.sl (List.length (NodeT.subs x)) (List.map PV.str (NodeT.subs x))))
  (some ((IV.agg [CV.pv (PV.str (NodeT.name x)), CV.pv (PV.sl (List.length (NodeT.subs x)) (List.map PV.str (NodeT.subs x))), CV.pv (PV.str (NodeT.value x))], [])))
  (none) := by kernel_rfl
theorem r_copyTree_eq (t : List NodeT) (u : List NodeT) (i : Int) : r_copyTree brC t u i =
 brC (decide (i < (↑(List.length t) : Int)))
  (brC (decide (0 ≤ i) && decide (i < (↑(List.length t) : Int)))
    (brC (Nat.ble 3 (List.length (List.drop (Int.toNat i * 3) (encN t))) && (PV.isStr (List.headD (List.drop (Int.toNat i * 3) (encN t)) PV.nilp) && (PV.isSl (List.headD (List.tail (List.drop (Int.toNat i * 3) (encN t))) PV.nilp) && (PV.isStr (List.headD (List.tail (List.tail (List.drop (Int.toNat i * 3) (encN t)))) PV.nilp) && true && true) && true) && true) && true)
      (brC (isN (PV.agg [PV.str (PV.asStr (List.headD (List.drop (Int.toNat i * 3) (encN t)) PV.nilp)), PV.sl (PV.slN (List.headD (List.tail (List.drop (Int.toNat i * 3) (encN t))) PV.nilp)) (PV.slL (List.headD (List.tail (List.drop (Int.toNat i * 3) (encN t))) PV.nilp)), PV.str (PV.asStr (List.headD (List.tail (List.tail (List.drop (Int.toNat i * 3) (encN t)))) PV.nilp))]))
        (brC (Nat.beq (List.length [PV.str (NodeT.name (asN (PV.agg [PV.str (PV.asStr (List.headD (List.drop (Int.toNat i * 3) (encN t)) PV.nilp)), PV.sl (PV.slN (List.headD (List.tail (List.drop (Int.toNat i * 3) (encN t))) PV.nilp)) (PV.slL (List.headD (List.tail (List.drop (Int.toNat i * 3) (encN t))) PV.nilp)), PV.str (PV.asStr (List.headD (List.tail (List.tail (List.drop (Int.toNat i * 3) (encN t)))) PV.nilp))]))), PV.sl (List.length (NodeT.subs (asN (PV.agg [PV.str (PV.asStr (List.headD (List.drop (Int.toNat i * 3) (encN t)) PV.nilp)), PV.sl (PV.slN (List.headD (List.tail (List.drop (Int.toNat i * 3) (encN t))) PV.nilp)) (PV.slL (List.headD (List.tail (List.drop (Int.toNat i * 3) (encN t))) PV.nilp)), PV.str (PV.asStr (List.headD (List.tail (List.tail (List.drop (Int.toNat i * 3) (encN t)))) PV.nilp))])))) (List.map PV.str (NodeT.subs (asN (PV.agg [PV.str (PV.asStr (List.headD (List.drop (Int.toNat i * 3) (encN t)) PV.nilp)), PV.sl (PV.slN (List.headD (List.tail (List.drop (Int.toNat i * 3) (encN t))) PV.nilp)) (PV.slL (List.headD (List.tail (List.drop (Int.toNat i * 3) (encN t))) PV.nilp)), PV.str (PV.asStr (List.headD (List.tail (List.tail (List.drop (Int.toNat i * 3) (encN t)))) PV.nilp))])))), PV.str (NodeT.value (asN (PV.agg [PV.str (PV.asStr (List.headD (List.drop (Int.toNat i * 3) (encN t)) PV.nilp)), PV.sl (PV.slN (List.headD (List.tail (List.drop (Int.toNat i * 3) (encN t))) PV.nilp)) (PV.slL (List.headD (List.tail (List.drop (Int.toNat i * 3) (encN t))) PV.nilp)), PV.str (PV.asStr (List.headD (List.tail (List.tail (List.drop (Int.toNat i * 3) (encN t)))) PV.nilp))])))]) (1 * 3) && (decide (List.length u + 1 ≤ 140737488351232) && decide ((List.length u + 1) * 56 ≤ 140737488355328)))
          (some (Sum.inl [(AV.ptr 8192 0, some (Ob.box [CV.pv PV.nils])), (AV.ptr 12288 0, some (Ob.box [CV.lst 3 33 (List.length u + 1) (encN u ++ [PV.str (NodeT.name (asN (PV.agg [PV.str (PV.asStr (List.headD (List.drop (Int.toNat i * 3) (encN t)) PV.nilp)), PV.sl (PV.slN (List.headD (List.tail (List.drop (Int.toNat i * 3) (encN t))) PV.nilp)) (PV.slL (List.headD (List.tail (List.drop (Int.toNat i * 3) (encN t))) PV.nilp)), PV.str (PV.asStr (List.headD (List.tail (List.tail (List.drop (Int.toNat i * 3) (encN t)))) PV.nilp))]))), PV.sl (List.length (NodeT.subs (asN (PV.agg [PV.str (PV.asStr (List.headD (List.drop (Int.toNat i * 3) (encN t)) PV.nilp)), PV.sl (PV.slN (List.headD (List.tail (List.drop (Int.toNat i * 3) (encN t))) PV.nilp)) (PV.slL (List.headD (List.tail (List.drop (Int.toNat i * 3) (encN t))) PV.nilp)), PV.str (PV.asStr (List.headD (List.tail (List.tail (List.drop (Int.toNat i * 3) (encN t)))) PV.nilp))])))) (List.map PV.str (NodeT.subs (asN (PV.agg [PV.str (PV.asStr (List.headD (List.drop (Int.toNat i * 3) (encN t)) PV.nilp)), PV.sl (PV.slN (List.headD (List.tail (List.drop (Int.toNat i * 3) (encN t))) PV.nilp)) (PV.slL (List.headD (List.tail (List.drop (Int.toNat i * 3) (encN t))) PV.nilp)), PV.str (PV.asStr (List.headD (List.tail (List.tail (List.drop (Int.toNat i * 3) (encN t)))) PV.nilp))])))), PV.str (NodeT.value (asN (PV.agg [PV.str (PV.asStr (List.headD (List.drop (Int.toNat i * 3) (encN t)) PV.nilp)), PV.sl (PV.slN (List.headD (List.tail (List.drop (Int.toNat i * 3) (encN t))) PV.nilp)) (PV.slL (List.headD (List.tail (List.drop (Int.toNat i * 3) (encN t))) PV.nilp)), PV.str (PV.asStr (List.headD (List.tail (List.tail (List.drop (Int.toNat i * 3) (encN t)))) PV.nilp))])))]) true])), (AV.pv (PV.sl (List.length t) (encN t)), none), (AV.pv (PV.int IntKind.i64 (↑(List.length t) : Int)), none), (AV.pv (PV.int IntKind.i64 (IntKind.wrap IntKind.i64 (i + 1))), none)]))
          (none))
        (none))
      (none))
    (none))
  (some (Sum.inr (Ex.exit 0, [(AV.ptr 8192 0, some (Ob.box [CV.pv PV.nils])), (AV.ptr 12288 0, some (Ob.box [CV.lst 3 33 (List.length u) (encN u) true]))]))) := by kernel_rfl
theorem q_kill0_eq (s : ByteArray) (xs : List ByteArray) : q_kill0 brC s xs =
 brC (isL (pL xs) && Nat.beq 130 130)
  (some ((IV.tup [], [[CV.pv (PV.sl 0 [])]])))
  (none) := by kernel_rfl
end

section
open Go.RowKit
set_option linter.unusedVariables false
set_option linter.unusedSimpArgs false
set_option maxRecDepth 100000

theorem killT_app (t u : List NodeT) (s : ByteArray) (xs : List ByteArray) : killT (t ++ u) s xs = killT t s xs ++ killT u s xs := List.filter_append t u
theorem killT_one (x : NodeT) (s : ByteArray) (xs : List ByteArray) : killT [x] s xs = if (!inX x s xs) = true then [x] else [] := by
  unfold killT
  rw [List.filter_cons]
  rfl
theorem go_kill (s : ByteArray) (xs : List ByteArray) : ∀ t : List NodeT, goIdx t s xs < t.length → killT (t.take (goIdx t s xs + 1)) s xs = t.take (goIdx t s xs)
  | [], h => by simp at h
  | x :: t, h => by
    cases hin : inX x s xs with
    | true =>
      rw [goIdx_in hin, Nat.zero_add, List.take_succ_cons, List.take_zero, List.take_zero, killT_one, hin]
      rfl
    | false =>
      rw [goIdx_out hin] at h ⊢
      have ih := go_kill s xs t (by simpa using h)
      rw [List.take_succ_cons, List.take_succ_cons, ← ih]
      show killT ([x] ++ _) s xs = _
      rw [killT_app, killT_one, hin]
      rfl
theorem go_none (s : ByteArray) (xs : List ByteArray) : ∀ t : List NodeT, ¬ goIdx t s xs < t.length → killT t s xs = t
  | [], h => rfl
  | x :: t, h => by
    cases hin : inX x s xs with
    | true => rw [goIdx_in hin] at h; simp at h
    | false =>
      rw [goIdx_out hin] at h
      have ih := go_none s xs t (by simpa using h)
      show killT ([x] ++ t) s xs = _
      rw [killT_app, killT_one, hin, ih]
      rfl
/-- The list while some of it goes. -/
noncomputable def delU (t : List NodeT) (s : ByteArray) (xs : List ByteArray) (j : Nat) : List NodeT := killT (t.take j) s xs ++ t.drop (killT (t.take j) s xs).length
theorem killT_takelen (t : List NodeT) (s : ByteArray) (xs : List ByteArray) (j : Nat) : (killT (t.take j) s xs).length ≤ j ∧ (killT (t.take j) s xs).length ≤ t.length := by
  have := killT_len (t.take j) s xs
  rw [List.length_take] at this
  omega
theorem delU_len (t : List NodeT) (s : ByteArray) (xs : List ByteArray) (j : Nat) : (delU t s xs j).length = t.length := by
  unfold delU
  have := killT_takelen t s xs j
  rw [List.length_append, List.length_drop]
  omega
theorem delU_drop (t : List NodeT) (s : ByteArray) (xs : List ByteArray) (j : Nat) : (delU t s xs j).drop j = t.drop j := by
  unfold delU
  have := killT_takelen t s xs j
  rw [List.drop_append, List.drop_eq_nil_of_le this.1, List.nil_append, List.drop_drop]
  congr 1
  omega
theorem DelN_loop (t : List NodeT) (h : shT t) (s : ByteArray) (xs : List ByteArray) (hx : shL xs) : ∀ (m j : Nat), m + j = t.length → LoopsTo (rdB brC Tryz.prog iba4 lp_DelN LO_DelN Tryz.f129 5 [])
    [aM 0 3 33 (delU t s xs j).length (encN (delU t s xs j)), aP (kcl s xs), aI (killT (t.take j) s xs).length, aI j] (.exit 0, [aM 0 3 33 t.length (encN (killT t s xs ++ t.drop (killT t s xs).length)), aI (killT t s xs).length]) := by
  have hl := h.1
  intro m
  induction m with
  | zero =>
    intro j hm
    obtain rfl : j = t.length := by omega
    refine .done _ _ ((r_DelN_eq (delU t s xs t.length) s xs (killT (t.take t.length) s xs).length t.length).trans ?_)
    rw [dF (by rw [delU_len]; omega), delU_len]
    unfold delU
    rw [List.take_length]
    rfl
  | succ m ih =>
    intro j hm
    have hj : j < t.length := by omega
    have hs := shN_at h hj
    have hkl := killT_takelen t s xs j
    have hul := delU_len t s xs j
    have hud := delU_drop t s xs j
    have ek : killT (t.take (j + 1)) s xs = killT (t.take j) s xs ++ (if (!inX t[j] s xs) = true then [t[j]] else []) := by
      rw [List.take_succ_eq_append_getElem hj, killT_app, killT_one]
    have hdrop : (encN (delU t s xs j)).drop (j * 3) = .str t[j].name :: .sl t[j].subs.length (t[j].subs.map PV.str) :: .str t[j].value :: encN (t.drop (j + 1)) := by
      rw [encN_drop, hud, List.drop_eq_getElem_cons hj]
      rfl
    have hel := encN_len (delU t s xs j)
    have b1 : Nat.ble (j * 3) (encN (delU t s xs j)).length = true := Nat.ble_eq_true_of_le (by omega)
    have b2 : Nat.ble ((killT (t.take j) s xs).length * 3 + 3) (encN (delU t s xs j)).length = true := Nat.ble_eq_true_of_le (by omega)
    have b3 : ∀ (x y z : PV), Nat.beq (List.length [x, y, z]) 3 = true := fun _ _ _ => rfl
    have e2 : isL (pL xs) = true := isL_mk hx
    have e3 : asL (pL xs) = xs := asL_mk xs
    have tree := r_DelN_eq (delU t s xs j) s xs (killT (t.take j) s xs).length j
    simp (disch := omega) only [dT, Int.toNat_natCast, hdrop, b1, b2, b3, List.length_cons, List.headD_cons, List.tail_cons, PV.isStr, PV.asStr, PV.isSl, PV.slN, PV.slL, ble3, wrap1, Bool.and_true, Bool.true_and, isN_mk hs, asN_mk, e2, e3] at tree
    cases hin : inX t[j] s xs with
    | true =>
      rw [hin] at tree ek
      simp only [Bool.not_true, if_neg Bool.false_ne_true, List.append_nil] at ek
      have ih' := ih (j + 1) (by omega)
      have eu : delU t s xs (j + 1) = delU t s xs j := by unfold delU; rw [ek]
      rw [eu, ek] at ih'
      exact .step _ _ _ tree ih'
    | false =>
      rw [hin] at tree ek
      simp only [Bool.not_false, if_pos] at ek
      have ih' := ih (j + 1) (by omega)
      have eu : encN (delU t s xs (j + 1)) = List.take ((killT (t.take j) s xs).length * 3) (encN (delU t s xs j)) ++ [PV.str t[j].name, PV.sl t[j].subs.length (t[j].subs.map PV.str), PV.str t[j].value] ++ List.drop ((killT (t.take j) s xs).length * 3 + 3) (encN (delU t s xs j)) := by
        rw [encN_take, show (killT (t.take j) s xs).length * 3 + 3 = ((killT (t.take j) s xs).length + 1) * 3 by omega, encN_drop]
        unfold delU
        rw [ek]
        generalize killT (t.take j) s xs = K
        have d1 : (K ++ t.drop K.length).drop (K.length + 1) = t.drop (K.length + 1) := by
          rw [List.drop_append, List.drop_eq_nil_of_le (Nat.le_succ _), List.nil_append, List.drop_drop]
          congr 1
          omega
        rw [d1, List.take_left, encN_app, encN_app, List.length_append, List.length_singleton]
        rfl
      have hl2 : (delU t s xs (j + 1)).length = (delU t s xs j).length := by rw [delU_len, delU_len]
      have hk2 : ((killT (t.take (j + 1)) s xs).length : Int) = (((killT (t.take j) s xs).length + 1 : Nat) : Int) := by rw [ek, List.length_append, List.length_singleton]
      rw [eu, hl2, hk2] at ih'
      exact .step _ _ _ tree ih'
theorem ok_DelN : EntryOk Tryz.prog 129 E_DelN := entry_of mix ok_iba4 (lp := lp_DelN) (LO := LO_DelN) ⟨Tryz.func129, by kernel_rfl, by kernel_rfl⟩ (by kernel_rfl) fun ivs res bxs h => by
  have loops : ∀ ivs : List IV, (∀ b ∈ loopsIn (bodyOf Tryz.f129), LoopOk Tryz.prog (tabL iba4) (OL lp_DelN) Tryz.f129.ntmps (pbOf []) LO_DelN b) := fun _ => by
    refine oneLoop 5 (by kernel_rfl) (by kernel_rfl) (by kernel_rfl) ?_
    intro ls e ls' hl
    unfold LO_DelN at hl
    split at hl
    · rename_i x e n l f s q i j
      obtain ⟨hc, he⟩ := pick1 hl
      cases he
      simp only [Bool.and_eq_true, beq_iff_eq, decide_eq_true_eq] at hc
      obtain ⟨⟨⟨⟨⟨⟨⟨g1, g2⟩, g3⟩, g4⟩, g5⟩, g6⟩, g7⟩, g8⟩ := hc
      obtain ⟨t, ht', ht⟩ := isE_inv g1
      obtain ⟨ys, rfl, hy⟩ := isL_inv g2
      rw [ht'] at g6 g7 g8 ⊢
      injection ht' with hn hll
      subst hn
      subst hll
      simp only [asNs_mk, asL_mk] at g6 g7 g8 ⊢
      rw [Nat.eq_of_beq_eq_true g3, Nat.eq_of_beq_eq_true g4, Nat.eq_of_beq_eq_true g5, g6, g7]
      have hk := go_kill s ys t g8
      have hkl : (killT (t.take (goIdx t s ys + 1)) s ys).length = goIdx t s ys := by rw [hk, List.length_take]; omega
      have := DelN_loop t ht s ys hy (t.length - (goIdx t s ys + 1)) (goIdx t s ys + 1) (by omega)
      have eu : delU t s ys (goIdx t s ys + 1) = t := by
        unfold delU
        rw [hkl, hk, List.take_append_drop]
      rw [eu, hkl] at this
      exact this
    · cases hl
  unfold E_DelN at h
  split at h
  · rename_i e n l f s q
    cases hg : (isNs (.sl n l) && isL q && Nat.beq f 130 && Nat.beq e 33) with
    | false => rw [hg] at h; simp only [pickA, Bool.false_and, cond_false] at h; cases h
    | true =>
      rw [hg, Bool.true_and] at h
      simp only [Bool.and_eq_true] at hg
      obtain ⟨⟨⟨g1, g2⟩, g3⟩, g4⟩ := hg
      obtain ⟨t, ht', ht⟩ := isE_inv g1
      obtain ⟨ys, rfl, hy⟩ := isL_inv g2
      rw [ht'] at h
      injection ht' with hn hl
      subst hn
      subst hl
      simp only [asNs_mk, asL_mk] at h
      rw [Nat.eq_of_beq_eq_true g3, Nat.eq_of_beq_eq_true g4] 
      refine ⟨loops [], (q_DelN_eq t s ys).trans ?_⟩
      have hlen := ht.1
      have hkl := killT_len t s ys
      have e1 := isNs_mk ht
      have e2 : isL (pL ys) = true := isL_mk hy
      have e3 : asL (pL ys) = ys := asL_mk ys
      simp only [isNs, e1, e2, e3, asNs_mk]
      by_cases hlt : goIdx t s ys < t.length
      · rw [dT hlt] at h
        cases h
        rw [if_pos hlt]
        have n1 : ((goIdx t s ys : Int) == -1) = false := by simp
        have n2 : (IntKind.wrap .i64 ((goIdx t s ys : Int) + 1) == (goIdx t s ys : Int) + 1) = true := by rw [wrap1 (by omega)]; simp
        have er : PV.sl (Int.toNat ((killT t s ys).length : Int) - 0) (List.take ((Int.toNat ((killT t s ys).length : Int) - 0) * 3) (List.drop (0 * 3) (List.take (Int.toNat ((killT t s ys).length : Int) * 3) (encN (killT t s ys ++ List.drop (killT t s ys).length t)) ++ List.flatten (List.replicate (t.length - Int.toNat ((killT t s ys).length : Int)) [PV.str { data := #[] }, PV.nils, PV.str { data := #[] }])))) = pNs (killT t s ys) := by
          rw [Int.toNat_natCast, Nat.sub_zero, Nat.zero_mul, List.drop_zero, encN_take, List.take_left, List.take_append_of_le_length (by rw [encN_len]; exact Nat.le_refl _), List.take_of_length_le (by rw [encN_len]; exact Nat.le_refl _)]
        rw [n1, n2, er]
        simp (disch := omega) only [dT, hlt, beq_self_eq_true, Nat.beq_refl, Bool.and_true, Bool.true_and]
        rfl
      · rw [dF hlt] at h
        cases h
        rw [if_neg hlt]
        rfl
  · rename_i f s q
    obtain ⟨hc, he⟩ := pick1 h
    cases he
    rw [Bool.and_eq_true] at hc
    obtain ⟨ys, rfl, hy⟩ := isL_inv hc.1
    rw [Nat.eq_of_beq_eq_true hc.2]
    refine ⟨loops [], (q_DelN0_eq s ys).trans ?_⟩
    have e1 : isNs (.sl 0 []) = true := isNs_mk (t := []) shT_nil
    have e2 : asNs (.sl 0 []) = [] := asNs_mk []
    have e3 : isL (pL ys) = true := isL_mk hy
    rw [e1, e2, e3]
    rfl
  · cases h
theorem ok_iba5 : EntriesOk Tryz.prog iba5 := ⟨ok_DelN, ok_iba4⟩
noncomputable def E_kill : Entry := fun ivs => match ivs with
  | [.box 0 [.lst 3 e n l true], .cv (.pv (.str s)), .cv (.pv q)] =>
    [(isNs (.sl n l) && isL q && Nat.beq e 33 && decide (goIdx (asNs (.sl n l)) s (asL q) < (asNs (.sl n l)).length), .tup [], [[.pv (pNs (killT (asNs (.sl n l)) s (asL q)))]]),
     (isNs (.sl n l) && isL q && Nat.beq e 33, .tup [], [[.lst 3 33 n l true]])]
  | [.box 0 [.pv .nils], .cv (.pv (.str s)), .cv (.pv q)] => [(isL q, .tup [], [[.pv (.sl 0 [])]])]
  | _ => []
theorem ok_kill : EntryOk Tryz.prog 109 E_kill := entry_of mix ok_iba5 (lp := lp_kill) (LO := LO0) ⟨Tryz.func109, by kernel_rfl, by kernel_rfl⟩ (by kernel_rfl) fun ivs res bxs h => by
  unfold E_kill at h
  split at h
  · rename_i e n l s q
    cases hg : (isNs (.sl n l) && isL q && Nat.beq e 33) with
    | false => rw [hg] at h; simp only [pickA, Bool.false_and, cond_false] at h; cases h
    | true =>
      rw [hg, Bool.true_and] at h
      simp only [Bool.and_eq_true] at hg
      obtain ⟨⟨g1, g2⟩, g4⟩ := hg
      obtain ⟨t, ht', ht⟩ := isE_inv g1
      obtain ⟨ys, rfl, hy⟩ := isL_inv g2
      rw [ht'] at h
      injection ht' with hn hl
      subst hn
      subst hl
      simp only [asNs_mk, asL_mk] at h
      rw [Nat.eq_of_beq_eq_true g4]
      refine ⟨noLoop (by kernel_rfl), (q_kill_eq t s ys).trans ?_⟩
      have e1 := isNs_mk ht
      have e2 : isL (pL ys) = true := isL_mk hy
      have e3 : asL (pL ys) = ys := asL_mk ys
      simp only [isNs, e1, e2, e3, asNs_mk]
      cases hlt : decide (goIdx t s ys < t.length) with
      | true => rw [hlt] at h; cases h; rfl
      | false => rw [hlt] at h; cases h; rfl
  · rename_i s q
    obtain ⟨hc, he⟩ := pick1 h
    cases he
    obtain ⟨ys, rfl, hy⟩ := isL_inv hc
    refine ⟨noLoop (by kernel_rfl), (q_kill0_eq s ys).trans ?_⟩
    rw [hc]
    rfl
  · cases h
theorem ok_copyNode : EntryOk Tryz.prog 65 E_copyNode := entry_of mix ok_iba5 (lp := []) (LO := LO0) ⟨Tryz.func65, by kernel_rfl, by kernel_rfl⟩ (by kernel_rfl) fun ivs res bxs h => by
  unfold E_copyNode at h
  split at h
  · rename_i p
    obtain ⟨hc, he⟩ := pick1 h
    cases he
    obtain ⟨x, rfl, hx⟩ := isE_inv hc
    refine ⟨noLoop (by kernel_rfl), (q_copyNode_eq x).trans ?_⟩
    have e : asN (pN x) = x := asN_mk x
    rw [e]
    simp only [isL_mk hx.2.1]
    rfl
  · cases h
theorem ok_iba6 : EntriesOk Tryz.prog iba6 := ⟨ok_copyNode, ok_iba5⟩
theorem copyTree_loop (t : List NodeT) (h : shT t) : ∀ (m i : Nat), m + i = t.length → LoopsTo (rdB brC Tryz.prog iba6 lp_copyTree LO_copyTree Tryz.f26 3 []) [aBx 2 [.pv .nils], aBx 3 [if i = 0 then .pv .nils else lN (t.take i)], aP (pNs t), aI t.length, aI i]
    (.exit 0, [aBx 2 [.pv .nils], aBx 3 [if t.length = 0 then .pv .nils else lN t]]) := by
  have hl := h.1
  intro m
  induction m with
  | zero =>
    intro i hm
    obtain rfl : i = t.length := by omega
    by_cases h0 : t.length = 0
    · rw [if_pos h0, if_pos h0]
      refine .done _ _ ((r_copyTree0_eq t t.length).trans ?_)
      rw [dF (by omega)]
      rfl
    · rw [if_neg h0, if_neg h0, List.take_length]
      refine .done _ _ ((r_copyTree_eq t t t.length).trans ?_)
      rw [dF (by omega)]
      rfl
  | succ m ih =>
    intro i hm
    have hi : i < t.length := by omega
    have hs := shN_at h hi
    have ih' := ih (i + 1) (by omega)
    have b3 : ∀ (x y z : PV), Nat.beq (List.length [x, y, z]) (1 * 3) = true := fun _ _ _ => rfl
    rw [if_neg (by omega), List.take_succ_eq_append_getElem hi] at ih'
    by_cases h0 : i = 0
    · subst h0
      have tree := r_copyTree0_eq t (0 : Nat)
      simp (disch := omega) only [dT, b3, Int.toNat_natCast, drop_encN t 0 hi, List.length_cons, List.headD_cons, List.tail_cons, PV.isStr, PV.asStr, PV.isSl, PV.slN, PV.slL, ble3, wrap1, Bool.and_true, isN_mk hs, asN_mk] at tree
      exact .step _ _ _ tree ih'
    · rw [if_neg h0]
      have htl : (t.take i).length ≤ 100000 := by rw [List.length_take]; omega
      have tree := r_copyTree_eq t (t.take i) i
      simp (disch := omega) only [dT, b3, Int.toNat_natCast, drop_encN t i hi, List.length_cons, List.headD_cons, List.tail_cons, PV.isStr, PV.asStr, PV.isSl, PV.slN, PV.slL, ble3, wrap1, Bool.and_true, isN_mk hs, asN_mk] at tree
      have e1 : (t.take i ++ [t[i]]).length = (t.take i).length + 1 := by rw [List.length_append, List.length_singleton]
      have e2 : encN (t.take i ++ [t[i]]) = encN (t.take i) ++ [.str t[i].name, .sl t[i].subs.length (t[i].subs.map PV.str), .str t[i].value] := by rw [encN_app]; rfl
      unfold lN at ih'
      rw [e1, e2] at ih'
      exact .step _ _ _ tree ih'
noncomputable def E_copyTree : Entry := fun ivs => match ivs with
  | [.cv (.pv p)] => [(isT p && holds (asT p = []), .agg [.pv .nils], []), (isT p, .agg [lN (asT p)], [])]
  | _ => []
theorem ok_copyTree : EntryOk Tryz.prog 26 E_copyTree := entry_of mix ok_iba6 (lp := lp_copyTree) (LO := LO_copyTree) ⟨Tryz.func26, by kernel_rfl, by kernel_rfl⟩ (by kernel_rfl) fun ivs res bxs h => by
  unfold E_copyTree at h
  split at h
  · rename_i p
    cases hg : isT p with
    | false => rw [hg] at h; simp only [pickA, Bool.false_and, cond_false] at h; cases h
    | true =>
      rw [hg, Bool.true_and] at h
      obtain ⟨t, rfl, ht⟩ := isE_inv hg
      simp only [asT_mk] at h
      refine ⟨oneLoop 3 (by kernel_rfl) (by kernel_rfl) (by kernel_rfl) ?_, (q_copyTree_eq t).trans ?_⟩
      · intro ls e ls' hl
        unfold LO_copyTree at hl
        split at hl
        · rename_i x y p n i
          cases hg : (isNs p && Nat.beq x 8192 && Nat.beq y 12288 && (n == ((asNs p).length : Int)) && (i == 0)) with
          | false => rw [hg] at hl; simp only [pickA, Bool.false_and, cond_false] at hl; cases hl
          | true =>
            rw [hg, Bool.true_and] at hl
            simp only [Bool.and_eq_true, beq_iff_eq] at hg
            obtain ⟨⟨⟨⟨g1, g2⟩, g3⟩, g4⟩, g5⟩ := hg
            obtain ⟨u, rfl, hu⟩ := isE_inv g1
            simp only [asNs_mk] at hl g4
            rw [Nat.eq_of_beq_eq_true g2, Nat.eq_of_beq_eq_true g3, g4, g5]
            have := copyTree_loop u hu u.length 0 (by omega)
            rw [if_pos rfl] at this
            by_cases hn : u = []
            · rw [holds_mk hn] at hl
              cases hl
              rw [if_pos (by rw [hn]; rfl)] at this
              exact this
            · have hf : holds (u = []) = false := by
                cases hh : holds (u = []) with
                | false => rfl
                | true => exact absurd (holds_inv hh) hn
              rw [hf] at hl
              cases hl
              rw [if_neg (fun e => hn (List.length_eq_zero_iff.1 e))] at this
              exact this
        · cases hl
      · simp only [isNs_mk ht, asNs_mk, beq_self_eq_true, Bool.and_true, Bool.true_and, Nat.beq_refl]
        cases hh : holds (t = []) with
        | true => rw [hh] at h; cases h; rfl
        | false => rw [hh] at h; cases h; rfl
  · cases h
theorem dataF_app (s : ByteArray) (xs : List ByteArray) : ∀ (t u : List NodeT) (c : Int), dataF s xs (t ++ u) c = dataF s xs u (dataF s xs t c)
  | [], u, c => rfl
  | x :: t, u, c => dataF_app s xs t u _
noncomputable def E_data : Entry := fun ivs => match ivs with | [.cv (.pv p), .cv (.pv (.str s)), .cv (.pv q)] => [(isT p && isL q, cI (dataF s (asL q) (asT p) 0), [])] | _ => []
end

section
open Go.RowKit
set_option linter.unusedVariables false

noncomputable def iba7 : List (FuncId × Entry) := (109, E_kill) :: (26, E_copyTree) :: iba6
abbrev lp_KillNode : List (Nat × List Nat × List Nat) := [(1000000, [], [23])]
noncomputable def q_place1 (br : Br) (x y : NodeT) := evB br Tryz.prog iba7 [] LO0 Tryz.f105 [cP (pN x), cP (pN y)]
noncomputable def E_place1 : Entry := fun ivs => match ivs with | [.cv (.pv p), .cv (.pv q)] => [(isN p && isN q, cI (cmpLoc (asN p).name (asN p).subs (asN q).name (asN q).subs), [])] | _ => []
noncomputable def iba8 : List (FuncId × Entry) := (105, E_place1) :: iba7
abbrev lp_BSF : List (Nat × List Nat × List Nat) := [(3, [0, 2, 4, 8, 9, 10], [0, 2, 4, 8, 9])]
abbrev tgB (y : NodeT) : List CV := [.pv (.str y.name), .pv (pL y.subs), .pv (.str y.value)]
noncomputable def LO_BSF : LoopT := fun _ ls => match ls with
  | [(.pv p, none), (.pv (.clo f []), none), (.ptr x 0, some (.box [.pv (.str a), .pv q, .pv (.str v)])), (.pv (.int .i64 n), none), (.pv (.int .i64 i), none), (.pv (.int .i64 j), none)] =>
    [(isNs p && isN (.agg [.str a, q, .str v]) && Nat.beq f 105 && Nat.beq x 16384 && treeB (asNs p) && (n == ((asNs p).length : Int)) && (i == 0) && (j == ((asNs p).length : Int)),
      .exit 0, [aP p, aP (.clo f []), aBx 4 [.pv (.str a), .pv q, .pv (.str v)], aI n, aI (locIdx (asNs p) a (asN (.agg [.str a, q, .str v])).subs)])]
  | _ => []
noncomputable def r_BSF (br : Br) (t : List NodeT) (y : NodeT) (i j : Int) := rdB br Tryz.prog iba8 lp_BSF LO_BSF Tryz.f104 3 [] [aP (pNs t), aP (.clo 105 []), aBx 4 (tgB y), aI t.length, aI i, aI j]
noncomputable def q_BSF (br : Br) (t : List NodeT) (y : NodeT) := evB br Tryz.prog iba8 lp_BSF LO_BSF Tryz.f104 [cP (pNs t), cP (pN y), cP (.clo 105 [])]
noncomputable def E_BSF : Entry := fun ivs => match ivs with
  | [.cv (.pv p), .cv (.pv q), .cv (.pv (.clo f []))] => [(isNs p && isN q && Nat.beq f 105 && treeB (asNs p), .tup [cI (locIdx (asNs p) (asN q).name (asN q).subs), cB (hasAt (asNs p) (asN q).name (asN q).subs)], [])]
  | _ => []
noncomputable def iba9 : List (FuncId × Entry) := (104, E_BSF) :: iba8
noncomputable def q_place (br : Br) (t : List NodeT) (s : ByteArray) (xs : List ByteArray) := evB br Tryz.prog iba9 [] LO0 Tryz.f70 [cP (pT t), cS s, cP (pL xs)]
noncomputable def E_place : Entry := fun ivs => match ivs with
  | [.cv (.pv p), .cv (.pv (.str s)), .cv (.pv q)] => [(isT p && isL q && decide (s.size ≤ 1000000) && treeB (asT p), .tup [cI (locIdx (asT p) s (asL q)), cB (hasAt (asT p) s (asL q))], [])]
  | _ => []
noncomputable def ibb0 : List (FuncId × Entry) := (70, E_place) :: iba9
noncomputable def q_get (br : Br) (t : List NodeT) (s : ByteArray) (xs : List ByteArray) := evB br Tryz.prog ibb0 [] LO0 Tryz.f29 [cP (pT t), cS s, cP (pL xs)]
/-- The value at a place. -/
noncomputable def getV (t : List NodeT) (s : ByteArray) (xs : List ByteArray) : Option ByteArray := if hasAt t s xs = true then (t[locIdx t s xs]?).map NodeT.value else none
noncomputable def E_get : Entry := fun ivs => match ivs with
  | [.cv (.pv p), .cv (.pv (.str s)), .cv (.pv q)] => [(isT p && isL q && decide (s.size ≤ 1000000) && treeB (asT p), .tup [cS ((getV (asT p) s (asL q)).getD ⟨#[]⟩), cB (getV (asT p) s (asL q)).isSome], [])]
  | _ => []
noncomputable def ibb1 : List (FuncId × Entry) := (29, E_get) :: ibb0
noncomputable def q_GetNode (br : Br) (t : List NodeT) (s : ByteArray) (xs : List ByteArray) := evB br Tryz.prog ibb1 [] LO0 Tryz.f9 [cP (pT t), cS s, cP (pL xs)]
end

section
set_option linter.unusedVariables false
set_option maxRecDepth 100000
theorem q_place_eq (t : List NodeT) (s : ByteArray) (xs : List ByteArray) : q_place brC t s xs =
 brC (isNs (PV.sl (List.length t) (encN t)) && isN (PV.agg [PV.str s, PV.sl (List.length xs) (List.map PV.str xs), PV.str { data := #[] }]) && Nat.beq 105 105 && treeB (asNs (PV.sl (List.length t) (encN t))))
  (some ((IV.tup [IV.cv (CV.pv (PV.int IntKind.i64 (↑(locIdx (asNs (PV.sl (List.length t) (encN t))) (NodeT.name (asN (PV.agg [PV.str s, PV.sl (List.length xs) (List.map PV.str xs), PV.str { data := #[] }]))) (NodeT.subs (asN (PV.agg [PV.str s, PV.sl (List.length xs) (List.map PV.str xs), PV.str { data := #[] }])))) : Int))), IV.cv (CV.pv (PV.bool (hasAt (asNs (PV.sl (List.length t) (encN t))) (NodeT.name (asN (PV.agg [PV.str s, PV.sl (List.length xs) (List.map PV.str xs), PV.str { data := #[] }]))) (NodeT.subs (asN (PV.agg [PV.str s, PV.sl (List.length xs) (List.map PV.str xs), PV.str { data := #[] }]))))))], [])))
  (none) := by kernel_rfl
theorem r_BSF_eq (t : List NodeT) (y : NodeT) (i : Int) (j : Int) : r_BSF brC t y i j =
 brC (decide (i < j))
  (brC (decide (0 ≤ IntKind.wrap IntKind.i64 (Int.fdiv (IntKind.wrap IntKind.u64 (IntKind.wrap IntKind.i64 (i + j))) (2 ^ 1))) && decide (IntKind.wrap IntKind.i64 (Int.fdiv (IntKind.wrap IntKind.u64 (IntKind.wrap IntKind.i64 (i + j))) (2 ^ 1)) < (↑(List.length t) : Int)))
    (brC (Nat.ble 3 (List.length (List.drop (Int.toNat (IntKind.wrap IntKind.i64 (Int.fdiv (IntKind.wrap IntKind.u64 (IntKind.wrap IntKind.i64 (i + j))) (2 ^ 1))) * 3) (encN t))) && (PV.isStr (List.headD (List.drop (Int.toNat (IntKind.wrap IntKind.i64 (Int.fdiv (IntKind.wrap IntKind.u64 (IntKind.wrap IntKind.i64 (i + j))) (2 ^ 1))) * 3) (encN t)) PV.nilp) && (PV.isSl (List.headD (List.tail (List.drop (Int.toNat (IntKind.wrap IntKind.i64 (Int.fdiv (IntKind.wrap IntKind.u64 (IntKind.wrap IntKind.i64 (i + j))) (2 ^ 1))) * 3) (encN t))) PV.nilp) && (PV.isStr (List.headD (List.tail (List.tail (List.drop (Int.toNat (IntKind.wrap IntKind.i64 (Int.fdiv (IntKind.wrap IntKind.u64 (IntKind.wrap IntKind.i64 (i + j))) (2 ^ 1))) * 3) (encN t)))) PV.nilp) && true && true) && true) && true) && true)
      (brC (isN (PV.agg [PV.str (PV.asStr (List.headD (List.drop (Int.toNat (IntKind.wrap IntKind.i64 (Int.fdiv (IntKind.wrap IntKind.u64 (IntKind.wrap IntKind.i64 (i + j))) (2 ^ 1))) * 3) (encN t)) PV.nilp)), PV.sl (PV.slN (List.headD (List.tail (List.drop (Int.toNat (IntKind.wrap IntKind.i64 (Int.fdiv (IntKind.wrap IntKind.u64 (IntKind.wrap IntKind.i64 (i + j))) (2 ^ 1))) * 3) (encN t))) PV.nilp)) (PV.slL (List.headD (List.tail (List.drop (Int.toNat (IntKind.wrap IntKind.i64 (Int.fdiv (IntKind.wrap IntKind.u64 (IntKind.wrap IntKind.i64 (i + j))) (2 ^ 1))) * 3) (encN t))) PV.nilp)), PV.str (PV.asStr (List.headD (List.tail (List.tail (List.drop (Int.toNat (IntKind.wrap IntKind.i64 (Int.fdiv (IntKind.wrap IntKind.u64 (IntKind.wrap IntKind.i64 (i + j))) (2 ^ 1))) * 3) (encN t)))) PV.nilp))]) && isN (PV.agg [PV.str (NodeT.name y), PV.sl (List.length (NodeT.subs y)) (List.map PV.str (NodeT.subs y)), PV.str (NodeT.value y)]))
        (brC (decide (cmpLoc (NodeT.name (asN (PV.agg [PV.str (PV.asStr (List.headD (List.drop (Int.toNat (IntKind.wrap IntKind.i64 (Int.fdiv (IntKind.wrap IntKind.u64 (IntKind.wrap IntKind.i64 (i + j))) (2 ^ 1))) * 3) (encN t)) PV.nilp)), PV.sl (PV.slN (List.headD (List.tail (List.drop (Int.toNat (IntKind.wrap IntKind.i64 (Int.fdiv (IntKind.wrap IntKind.u64 (IntKind.wrap IntKind.i64 (i + j))) (2 ^ 1))) * 3) (encN t))) PV.nilp)) (PV.slL (List.headD (List.tail (List.drop (Int.toNat (IntKind.wrap IntKind.i64 (Int.fdiv (IntKind.wrap IntKind.u64 (IntKind.wrap IntKind.i64 (i + j))) (2 ^ 1))) * 3) (encN t))) PV.nilp)), PV.str (PV.asStr (List.headD (List.tail (List.tail (List.drop (Int.toNat (IntKind.wrap IntKind.i64 (Int.fdiv (IntKind.wrap IntKind.u64 (IntKind.wrap IntKind.i64 (i + j))) (2 ^ 1))) * 3) (encN t)))) PV.nilp))]))) (NodeT.subs (asN (PV.agg [PV.str (PV.asStr (List.headD (List.drop (Int.toNat (IntKind.wrap IntKind.i64 (Int.fdiv (IntKind.wrap IntKind.u64 (IntKind.wrap IntKind.i64 (i + j))) (2 ^ 1))) * 3) (encN t)) PV.nilp)), PV.sl (PV.slN (List.headD (List.tail (List.drop (Int.toNat (IntKind.wrap IntKind.i64 (Int.fdiv (IntKind.wrap IntKind.u64 (IntKind.wrap IntKind.i64 (i + j))) (2 ^ 1))) * 3) (encN t))) PV.nilp)) (PV.slL (List.headD (List.tail (List.drop (Int.toNat (IntKind.wrap IntKind.i64 (Int.fdiv (IntKind.wrap IntKind.u64 (IntKind.wrap IntKind.i64 (i + j))) (2 ^ 1))) * 3) (encN t))) PV.nilp)), PV.str (PV.asStr (List.headD (List.tail (List.tail (List.drop (Int.toNat (IntKind.wrap IntKind.i64 (Int.fdiv (IntKind.wrap IntKind.u64 (IntKind.wrap IntKind.i64 (i + j))) (2 ^ 1))) * 3) (encN t)))) PV.nilp))]))) (NodeT.name (asN (PV.agg [PV.str (NodeT.name y), PV.sl (List.length (NodeT.subs y)) (List.map PV.str (NodeT.subs y)), PV.str (NodeT.value y)]))) (NodeT.subs (asN (PV.agg [PV.str (NodeT.name y), PV.sl (List.length (NodeT.subs y)) (List.map PV.str (NodeT.subs y)), PV.str (NodeT.value y)]))) < 0))
          (some (Sum.inl [(AV.pv (PV.sl (List.length t) (encN t)), none), (AV.pv (PV.clo 105 []), none), (AV.ptr 16384 0, some (Ob.box [CV.pv (PV.str (NodeT.name y)), CV.pv (PV.sl (List.length (NodeT.subs y)) (List.map PV.str (NodeT.subs y))), CV.pv (PV.str (NodeT.value y))])), (AV.pv (PV.int IntKind.i64 (↑(List.length t) : Int)), none), (AV.pv (PV.int IntKind.i64 (IntKind.wrap IntKind.i64 (IntKind.wrap IntKind.i64 (Int.fdiv (IntKind.wrap IntKind.u64 (IntKind.wrap IntKind.i64 (i + j))) (2 ^ 1)) + 1))), none), (AV.pv (PV.int IntKind.i64 j), none)]))
          (some (Sum.inl [(AV.pv (PV.sl (List.length t) (encN t)), none), (AV.pv (PV.clo 105 []), none), (AV.ptr 16384 0, some (Ob.box [CV.pv (PV.str (NodeT.name y)), CV.pv (PV.sl (List.length (NodeT.subs y)) (List.map PV.str (NodeT.subs y))), CV.pv (PV.str (NodeT.value y))])), (AV.pv (PV.int IntKind.i64 (↑(List.length t) : Int)), none), (AV.pv (PV.int IntKind.i64 i), none), (AV.pv (PV.int IntKind.i64 (IntKind.wrap IntKind.i64 (Int.fdiv (IntKind.wrap IntKind.u64 (IntKind.wrap IntKind.i64 (i + j))) (2 ^ 1)))), none)])))
        (none))
      (none))
    (none))
  (some (Sum.inr (Ex.exit 0, [(AV.pv (PV.sl (List.length t) (encN t)), none), (AV.pv (PV.clo 105 []), none), (AV.ptr 16384 0, some (Ob.box [CV.pv (PV.str (NodeT.name y)), CV.pv (PV.sl (List.length (NodeT.subs y)) (List.map PV.str (NodeT.subs y))), CV.pv (PV.str (NodeT.value y))])), (AV.pv (PV.int IntKind.i64 (↑(List.length t) : Int)), none), (AV.pv (PV.int IntKind.i64 i), none)]))) := by kernel_rfl
theorem q_place1_eq (x : NodeT) (y : NodeT) : q_place1 brC x y =
 brC (isL (PV.sl (List.length (NodeT.subs x)) (List.map PV.str (NodeT.subs x))) && isL (PV.sl (List.length (NodeT.subs y)) (List.map PV.str (NodeT.subs y))))
  (some ((IV.cv (CV.pv (PV.int IntKind.i64 (cmpLoc (NodeT.name x) (asL (PV.sl (List.length (NodeT.subs x)) (List.map PV.str (NodeT.subs x)))) (NodeT.name y) (asL (PV.sl (List.length (NodeT.subs y)) (List.map PV.str (NodeT.subs y))))))), [])))
  (none) := by kernel_rfl
theorem q_GetNode_eq (t : List NodeT) (s : ByteArray) (xs : List ByteArray) : q_GetNode brC t s xs =
 brC (isT (PV.agg [PV.sl (List.length t) (encN t)]))
  (brC (!treeB (asT (PV.agg [PV.sl (List.length t) (encN t)])))
    (some ((IV.tup [IV.cv (CV.pv (PV.str { data := #[] })), IV.cv (CV.pv (PV.bool false))], [])))
    (brC (decide (ByteArray.size s ≤ 1000000) && isL (PV.sl (List.length xs) (List.map PV.str xs)))
      (brC (!placeB s (asL (PV.sl (List.length xs) (List.map PV.str xs))))
        (some ((IV.tup [IV.cv (CV.pv (PV.str { data := #[] })), IV.cv (CV.pv (PV.bool false))], [])))
        (brC (isT (PV.agg [PV.sl (List.length t) (encN t)]) && isL (PV.sl (List.length xs) (List.map PV.str xs)) && decide (ByteArray.size s ≤ 1000000) && treeB (asT (PV.agg [PV.sl (List.length t) (encN t)])))
          (some ((IV.tup [IV.cv (CV.pv (PV.str (Option.getD (getV (asT (PV.agg [PV.sl (List.length t) (encN t)])) s (asL (PV.sl (List.length xs) (List.map PV.str xs)))) { data := #[] }))), IV.cv (CV.pv (PV.bool (Option.isSome (getV (asT (PV.agg [PV.sl (List.length t) (encN t)])) s (asL (PV.sl (List.length xs) (List.map PV.str xs)))))))], [])))
          (none)))
      (none)))
  (none) := by kernel_rfl
theorem q_BSF_eq (t : List NodeT) (y : NodeT) : q_BSF brC t y =
 brC (isNs (pNs t) && isN (PV.agg [PV.str (NodeT.name y), pL (NodeT.subs y), PV.str (NodeT.value y)]) && Nat.beq 105 105 && Nat.beq 16384 16384 && treeB (asNs (pNs t)) && (↑(List.length t) : Int) == (↑(List.length (asNs (pNs t))) : Int) && 0 == 0 && (↑(List.length t) : Int) == (↑(List.length (asNs (pNs t))) : Int))
  (brC (decide ((↑(locIdx (asNs (pNs t)) (NodeT.name y) (NodeT.subs (asN (PV.agg [PV.str (NodeT.name y), pL (NodeT.subs y), PV.str (NodeT.value y)])))) : Int) < (↑(List.length t) : Int)))
    (brC (decide (0 ≤ (↑(locIdx (asNs (pNs t)) (NodeT.name y) (NodeT.subs (asN (PV.agg [PV.str (NodeT.name y), pL (NodeT.subs y), PV.str (NodeT.value y)])))) : Int)) && decide ((↑(locIdx (asNs (pNs t)) (NodeT.name y) (NodeT.subs (asN (PV.agg [PV.str (NodeT.name y), pL (NodeT.subs y), PV.str (NodeT.value y)])))) : Int) < (↑(List.length t) : Int)))
      (brC (Nat.ble 3 (List.length (List.drop (Int.toNat (↑(locIdx (asNs (pNs t)) (NodeT.name y) (NodeT.subs (asN (PV.agg [PV.str (NodeT.name y), pL (NodeT.subs y), PV.str (NodeT.value y)])))) : Int) * 3) (encN t))) && (PV.isStr (List.headD (List.drop (Int.toNat (↑(locIdx (asNs (pNs t)) (NodeT.name y) (NodeT.subs (asN (PV.agg [PV.str (NodeT.name y), pL (NodeT.subs y), PV.str (NodeT.value y)])))) : Int) * 3) (encN t)) PV.nilp) && (PV.isSl (List.headD (List.tail (List.drop (Int.toNat (↑(locIdx (asNs (pNs t)) (NodeT.name y) (NodeT.subs (asN (PV.agg [PV.str (NodeT.name y), pL (NodeT.subs y), PV.str (NodeT.value y)])))) : Int) * 3) (encN t))) PV.nilp) && (PV.isStr (List.headD (List.tail (List.tail (List.drop (Int.toNat (↑(locIdx (asNs (pNs t)) (NodeT.name y) (NodeT.subs (asN (PV.agg [PV.str (NodeT.name y), pL (NodeT.subs y), PV.str (NodeT.value y)])))) : Int) * 3) (encN t)))) PV.nilp) && true && true) && true) && true) && true)
        (brC (isN (PV.agg [PV.str (PV.asStr (List.headD (List.drop (Int.toNat (↑(locIdx (asNs (pNs t)) (NodeT.name y) (NodeT.subs (asN (PV.agg [PV.str (NodeT.name y), pL (NodeT.subs y), PV.str (NodeT.value y)])))) : Int) * 3) (encN t)) PV.nilp)), PV.sl (PV.slN (List.headD (List.tail (List.drop (Int.toNat (↑(locIdx (asNs (pNs t)) (NodeT.name y) (NodeT.subs (asN (PV.agg [PV.str (NodeT.name y), pL (NodeT.subs y), PV.str (NodeT.value y)])))) : Int) * 3) (encN t))) PV.nilp)) (PV.slL (List.headD (List.tail (List.drop (Int.toNat (↑(locIdx (asNs (pNs t)) (NodeT.name y) (NodeT.subs (asN (PV.agg [PV.str (NodeT.name y), pL (NodeT.subs y), PV.str (NodeT.value y)])))) : Int) * 3) (encN t))) PV.nilp)), PV.str (PV.asStr (List.headD (List.tail (List.tail (List.drop (Int.toNat (↑(locIdx (asNs (pNs t)) (NodeT.name y) (NodeT.subs (asN (PV.agg [PV.str (NodeT.name y), pL (NodeT.subs y), PV.str (NodeT.value y)])))) : Int) * 3) (encN t)))) PV.nilp))]) && isN (PV.agg [PV.str (NodeT.name y), PV.sl (List.length (NodeT.subs y)) (List.map PV.str (NodeT.subs y)), PV.str (NodeT.value y)]))
          (some ((IV.tup [IV.cv (CV.pv (PV.int IntKind.i64 (↑(locIdx (asNs (pNs t)) (NodeT.name y) (NodeT.subs (asN (PV.agg [PV.str (NodeT.name y), pL (NodeT.subs y), PV.str (NodeT.value y)])))) : Int))), IV.cv (CV.pv (PV.bool (cmpLoc (NodeT.name (asN (PV.agg [PV.str (PV.asStr (List.headD (List.drop (Int.toNat (↑(locIdx (asNs (pNs t)) (NodeT.name y) (NodeT.subs (asN (PV.agg [PV.str (NodeT.name y), pL (NodeT.subs y), PV.str (NodeT.value y)])))) : Int) * 3) (encN t)) PV.nilp)), PV.sl (PV.slN (List.headD (List.tail (List.drop (Int.toNat (↑(locIdx (asNs (pNs t)) (NodeT.name y) (NodeT.subs (asN (PV.agg [PV.str (NodeT.name y), pL (NodeT.subs y), PV.str (NodeT.value y)])))) : Int) * 3) (encN t))) PV.nilp)) (PV.slL (List.headD (List.tail (List.drop (Int.toNat (↑(locIdx (asNs (pNs t)) (NodeT.name y) (NodeT.subs (asN (PV.agg [PV.str (NodeT.name y), pL (NodeT.subs y), PV.str (NodeT.value y)])))) : Int) * 3) (encN t))) PV.nilp)), PV.str (PV.asStr (List.headD (List.tail (List.tail (List.drop (Int.toNat (↑(locIdx (asNs (pNs t)) (NodeT.name y) (NodeT.subs (asN (PV.agg [PV.str (NodeT.name y), pL (NodeT.subs y), PV.str (NodeT.value y)])))) : Int) * 3) (encN t)))) PV.nilp))]))) (NodeT.subs (asN (PV.agg [PV.str (PV.asStr (List.headD (List.drop (Int.toNat (↑(locIdx (asNs (pNs t)) (NodeT.name y) (NodeT.subs (asN (PV.agg [PV.str (NodeT.name y), pL (NodeT.subs y), PV.str (NodeT.value y)])))) : Int) * 3) (encN t)) PV.nilp)), PV.sl (PV.slN (List.headD (List.tail (List.drop (Int.toNat (↑(locIdx (asNs (pNs t)) (NodeT.name y) (NodeT.subs (asN (PV.agg [PV.str (NodeT.name y), pL (NodeT.subs y), PV.str (NodeT.value y)])))) : Int) * 3) (encN t))) PV.nilp)) (PV.slL (List.headD (List.tail (List.drop (Int.toNat (↑(locIdx (asNs (pNs t)) (NodeT.name y) (NodeT.subs (asN (PV.agg [PV.str (NodeT.name y), pL (NodeT.subs y), PV.str (NodeT.value y)])))) : Int) * 3) (encN t))) PV.nilp)), PV.str (PV.asStr (List.headD (List.tail (List.tail (List.drop (Int.toNat (↑(locIdx (asNs (pNs t)) (NodeT.name y) (NodeT.subs (asN (PV.agg [PV.str (NodeT.name y), pL (NodeT.subs y), PV.str (NodeT.value y)])))) : Int) * 3) (encN t)))) PV.nilp))]))) (NodeT.name (asN (PV.agg [PV.str (NodeT.name y), PV.sl (List.length (NodeT.subs y)) (List.map PV.str (NodeT.subs y)), PV.str (NodeT.value y)]))) (NodeT.subs (asN (PV.agg [PV.str (NodeT.name y), PV.sl (List.length (NodeT.subs y)) (List.map PV.str (NodeT.subs y)), PV.str (NodeT.value y)]))) == 0)))], [])))
          (none))
        (none))
      (none))
    (some ((IV.tup [IV.cv (CV.pv (PV.int IntKind.i64 (↑(locIdx (asNs (pNs t)) (NodeT.name y) (NodeT.subs (asN (PV.agg [PV.str (NodeT.name y), pL (NodeT.subs y), PV.str (NodeT.value y)])))) : Int))), IV.cv (CV.pv (PV.bool false))], []))))
  (none) := by kernel_rfl
theorem q_get_eq (t : List NodeT) (s : ByteArray) (xs : List ByteArray) : q_get brC t s xs =
 brC (isT (PV.agg [PV.sl (List.length t) (encN t)]) && isL (PV.sl (List.length xs) (List.map PV.str xs)) && decide (ByteArray.size s ≤ 1000000) && treeB (asT (PV.agg [PV.sl (List.length t) (encN t)])))
  (brC (!hasAt (asT (PV.agg [PV.sl (List.length t) (encN t)])) s (asL (PV.sl (List.length xs) (List.map PV.str xs))))
    (some ((IV.tup [IV.cv (CV.pv (PV.str { data := #[] })), IV.cv (CV.pv (PV.bool false))], [])))
    (brC (decide (0 ≤ (↑(locIdx (asT (PV.agg [PV.sl (List.length t) (encN t)])) s (asL (PV.sl (List.length xs) (List.map PV.str xs)))) : Int)) && decide ((↑(locIdx (asT (PV.agg [PV.sl (List.length t) (encN t)])) s (asL (PV.sl (List.length xs) (List.map PV.str xs)))) : Int) < (↑(List.length t) : Int)))
      (brC (Nat.blt 0 (List.length (List.drop 2 (List.drop (Int.toNat (↑(locIdx (asT (PV.agg [PV.sl (List.length t) (encN t)])) s (asL (PV.sl (List.length xs) (List.map PV.str xs)))) : Int) * 3) (encN t)))) && PV.isStr (List.headD (List.drop 2 (List.drop (Int.toNat (↑(locIdx (asT (PV.agg [PV.sl (List.length t) (encN t)])) s (asL (PV.sl (List.length xs) (List.map PV.str xs)))) : Int) * 3) (encN t))) PV.nilp) && true)
        (some ((IV.tup [IV.cv (CV.pv (PV.str (PV.asStr (List.headD (List.drop 2 (List.drop (Int.toNat (↑(locIdx (asT (PV.agg [PV.sl (List.length t) (encN t)])) s (asL (PV.sl (List.length xs) (List.map PV.str xs)))) : Int) * 3) (encN t))) PV.nilp)))), IV.cv (CV.pv (PV.bool true))], [])))
        (none))
      (none)))
  (none) := by kernel_rfl
end

section
open Go.RowKit
set_option linter.unusedVariables false
set_option linter.unusedSimpArgs false
set_option maxRecDepth 100000

theorem ok_iba7 : EntriesOk Tryz.prog iba7 := ⟨ok_kill, ok_copyTree, ok_iba6⟩
noncomputable def killV (t : List NodeT) (s : ByteArray) (xs : List ByteArray) : List NodeT := if (treeB t && placeB s xs) = true then killT t s xs else []
noncomputable def E_KillNode : Entry := fun ivs => match ivs with
  | [.cv (.pv p), .cv (.pv (.str s)), .cv (.pv q)] => [(isT p && decide (s.size ≤ 1000000) && isL q, .agg [.pv (pNs (killV (asT p) s (asL q)))], [])]
  | _ => []
noncomputable def dataV (t : List NodeT) (s : ByteArray) (xs : List ByteArray) : Int := if (treeB t && placeB s xs) = true then dataF s xs t 0 else 0
noncomputable def E_DataOf : Entry := fun ivs => match ivs with
  | [.cv (.pv p), .cv (.pv (.str s)), .cv (.pv q)] => [(isT p && decide (s.size ≤ 1000000) && isL q, cI (dataV (asT p) s (asL q)), [])]
  | _ => []
theorem ok_place1 : EntryOk Tryz.prog 105 E_place1 := entry_of mix ok_iba7 (lp := []) (LO := LO0) ⟨Tryz.func105, by kernel_rfl, by kernel_rfl⟩ (by kernel_rfl) fun ivs res bxs h => by
  unfold E_place1 at h
  split at h
  · rename_i p q
    obtain ⟨hc, he⟩ := pick1 h
    cases he
    rw [Bool.and_eq_true] at hc
    obtain ⟨x, rfl, hx⟩ := isE_inv hc.1
    obtain ⟨y, rfl, hy⟩ := isE_inv hc.2
    refine ⟨noLoop (by kernel_rfl), (q_place1_eq x y).trans ?_⟩
    have e1 : asN (pN x) = x := asN_mk x
    have e2 : asN (pN y) = y := asN_mk y
    rw [e1, e2]
    simp only [isL_mk hx.2.1, isL_mk hy.2.1, asL_mk]
    rfl
  · cases h
theorem ok_iba8 : EntriesOk Tryz.prog iba8 := ⟨ok_place1, ok_iba7⟩
/-- In a right tree what stands ahead of a place comes first. -/
theorem sort_loc {t : List NodeT} (hB : treeB t = true) (s : ByteArray) (xs : List ByteArray) {h : Nat} (hh : h < t.length) : locLt t[h].name t[h].subs s xs = decide (h < locIdx t s xs) := by
  have hpw := List.pairwise_iff_getElem.1 (treeB_ok hB).2.2
  rcases Nat.lt_or_ge (locIdx t s xs) h with hlt | hle
  · rw [dF (by omega)]
    cases hc : locLt t[h].name t[h].subs s xs with
    | false => rfl
    | true =>
      exfalso
      have hL : locIdx t s xs < t.length := by omega
      have h1 := hpw (locIdx t s xs) h hL hh hlt
      have h2 := locLt_trans h1 hc
      have h3 : locLt t[locIdx t s xs].name t[locIdx t s xs].subs s xs = _ := tw_at (locP s xs) t (locIdx t s xs) (Nat.le_refl _) hL
      rw [h2] at h3
      have := of_decide_eq_true h3.symm
      unfold locIdx at this
      omega
  · exact tw_at (locP s xs) t h hle hh
theorem half {i j : Nat} (hi : i ≤ 200000) (hj : j ≤ 200000) : IntKind.wrap .i64 (Int.fdiv (IntKind.wrap .u64 (IntKind.wrap .i64 ((i : Int) + (j : Int)))) (2 ^ 1)) = (((i + j) / 2 : Nat) : Int) := by
  rw [wrapI (x := (i : Int) + (j : Int)) (by omega) (by omega), Go.IntWalk.u64_in _ ⟨by omega, by omega⟩, Int.fdiv_eq_ediv_of_nonneg _ (by decide)]
  have : ((i : Int) + (j : Int)) / (2 ^ 1) = (((i + j) / 2 : Nat) : Int) := by omega
  rw [this, wrapI (by omega) (by omega)]
theorem BSF_loop (t : List NodeT) (h : shT t) (hB : treeB t = true) (y : NodeT) (hy : shN y) : ∀ (m i j : Nat), j - i ≤ m → i ≤ locIdx t y.name y.subs → locIdx t y.name y.subs ≤ j → j ≤ t.length → LoopsTo (rdB brC Tryz.prog iba8 lp_BSF LO_BSF Tryz.f104 3 []) [aP (pNs t), aP (.clo 105 []), aBx 4 (tgB y), aI t.length, aI i, aI j]
    (.exit 0, [aP (pNs t), aP (.clo 105 []), aBx 4 (tgB y), aI t.length, aI (locIdx t y.name y.subs)]) := by
  have hl := h.1
  intro m
  induction m with
  | zero =>
    intro i j hm h1 h2 h3
    obtain rfl : i = locIdx t y.name y.subs := by omega
    refine .done _ _ ((r_BSF_eq t y (locIdx t y.name y.subs) j).trans ?_)
    rw [dF (by omega)]
    rfl
  | succ m ih =>
    intro i j hm h1 h2 h3
    by_cases hij : i < j
    · have hh : (i + j) / 2 < t.length := by omega
      have hs := shN_at h hh
      have hlo := sort_loc hB y.name y.subs hh
      have hcm := cmpLoc_neg t[(i + j) / 2].name t[(i + j) / 2].subs y.name y.subs
      rw [hlo] at hcm
      have tree := r_BSF_eq t y i j
      simp (disch := omega) only [half (show i ≤ 200000 by omega) (show j ≤ 200000 by omega), dT, Int.toNat_natCast, drop_encN t _ hh, List.length_cons, List.headD_cons, List.tail_cons, PV.isStr, PV.asStr, PV.isSl, PV.slN, PV.slL, ble3, wrap1, Bool.and_true, isN_mk hs, isN_mk hy, asN_mk, hcm] at tree
      by_cases hk : (i + j) / 2 < locIdx t y.name y.subs
      · rw [dT hk] at tree
        exact .step _ _ _ tree (ih ((i + j) / 2 + 1) j (by omega) (by omega) h2 h3)
      · rw [dF hk] at tree
        exact .step _ _ _ tree (ih i ((i + j) / 2) (by omega) h1 (by omega) (by omega))
    · obtain rfl : i = locIdx t y.name y.subs := by omega
      refine .done _ _ ((r_BSF_eq t y (locIdx t y.name y.subs) j).trans ?_)
      rw [dF (by omega)]
      rfl
theorem collL_zero : ∀ xs ys : List ByteArray, collL xs ys = 0 ↔ xs = ys
  | [], [] => by simp [collL]
  | [], _ :: _ => by simp [collL]
  | _ :: _, [] => by simp [collL]
  | a :: x, b :: y => by
    unfold collL
    by_cases h : coll a b = 0
    · rw [if_pos h, collL_zero x y]
      have := coll_zero.1 h
      subst this
      simp
    · rw [if_neg h]
      refine ⟨fun e => absurd e h, fun e => ?_⟩
      injection e with e1 e2
      exact absurd (coll_zero.2 e1) h
theorem cmpLoc_zeroB (a : ByteArray) (xs : List ByteArray) (b : ByteArray) (ys : List ByteArray) : (cmpLoc a xs b ys == 0) = (sEq a b && sameX xs ys) := by
  unfold cmpLoc orI
  by_cases h : cmpS a b = 0
  · rw [if_pos h]
    have := cmpS_zero.1 h
    subst this
    rw [sEq_self, Bool.true_and, Bool.eq_iff_iff, beq_iff_eq, collL_zero]
    exact ⟨fun e => holds_mk e, fun e => holds_inv e⟩
  · rw [if_neg h]
    have h1 : (cmpS a b == 0) = false := by simpa using h
    have h2 : sEq a b = false := sEq_false.2 fun e => h (cmpS_zero.2 e)
    rw [h1, h2, Bool.false_and]
theorem ok_BSF : EntryOk Tryz.prog 104 E_BSF := entry_of mix ok_iba8 (lp := lp_BSF) (LO := LO_BSF) ⟨Tryz.func104, by kernel_rfl, by kernel_rfl⟩ (by kernel_rfl) fun ivs res bxs h => by
  unfold E_BSF at h
  split at h
  · rename_i p q f
    obtain ⟨hc, he⟩ := pick1 h
    cases he
    simp only [Bool.and_eq_true] at hc
    obtain ⟨⟨⟨g1, g2⟩, g3⟩, g4⟩ := hc
    obtain ⟨t, rfl, ht⟩ := isE_inv g1
    obtain ⟨y, rfl, hy⟩ := isE_inv g2
    obtain rfl := Nat.eq_of_beq_eq_true g3
    have e1 : asNs (pNs t) = t := asNs_mk t
    have e2 : asN (pN y) = y := asN_mk y
    rw [e1] at g4 ⊢
    rw [e2]
    refine ⟨oneLoop 3 (by kernel_rfl) (by kernel_rfl) (by kernel_rfl) ?_, (q_BSF_eq t y).trans ?_⟩
    · intro ls e ls' hl
      unfold LO_BSF at hl
      split at hl
      · rename_i p f x a q v n i j
        obtain ⟨hc, he⟩ := pick1 hl
        cases he
        simp only [Bool.and_eq_true, beq_iff_eq] at hc
        obtain ⟨⟨⟨⟨⟨⟨⟨k1, k2⟩, k3⟩, k4⟩, k5⟩, k6⟩, k7⟩, k8⟩ := hc
        obtain ⟨u, rfl, hu⟩ := isE_inv k1
        obtain ⟨z, hz', hz⟩ := isE_inv k2
        injection hz' with hz'
        injection hz' with z1 hz'
        injection hz' with z2 hz'
        injection hz' with z3 hz'
        injection z1 with z1
        injection z3 with z3
        subst z1
        subst z2
        subst z3
        have e1 : asNs (pNs u) = u := asNs_mk u
        have e2 : asN (PV.agg [PV.str z.name, pL z.subs, PV.str z.value]) = z := asN_mk z
        rw [e1] at k5 k6 k8 ⊢
        rw [Nat.eq_of_beq_eq_true k3, Nat.eq_of_beq_eq_true k4, k6, k7, k8, e2]
        exact BSF_loop u hu k5 z hz u.length 0 u.length (by omega) (Nat.zero_le _) (tw_le _ _) (Nat.le_refl _)
      · cases hl
    · have i1 := isNs_mk ht
      have i2 := isN_mk hy
      have hl := ht.1
      have hle : locIdx t y.name y.subs ≤ t.length := tw_le _ _
      have e3 : asN (PV.agg [PV.str y.name, pL y.subs, PV.str y.value]) = y := asN_mk y
      have i3 : isN (PV.agg [PV.str y.name, pL y.subs, PV.str y.value]) = true := isN_mk hy
      simp only [isNs, i1, e1, e3, i3, asNs_mk, g4, beq_self_eq_true, Bool.and_true, Bool.true_and, Nat.beq_refl]
      unfold hasAt
      by_cases hi : locIdx t y.name y.subs < t.length
      · have hs := shN_at ht hi
        rw [List.drop_eq_getElem_cons hi]
        simp (disch := omega) only [dT, Int.toNat_natCast, drop_encN t _ hi, List.length_cons, List.headD_cons, List.tail_cons, PV.isStr, PV.asStr, PV.isSl, PV.slN, PV.slL, ble3, Bool.and_true, isN_mk hs, isN_mk hy, asN_mk, cmpLoc_zeroB]
        rfl
      · rw [dF (show ¬ ((locIdx t y.name y.subs : Nat) : Int) < (t.length : Int) by omega), List.drop_eq_nil_of_le (show t.length ≤ locIdx t y.name y.subs by omega)]
        rfl
  · cases h
theorem ok_iba9 : EntriesOk Tryz.prog iba9 := ⟨ok_BSF, ok_iba8⟩
theorem ok_place : EntryOk Tryz.prog 70 E_place := entry_of mix ok_iba9 (lp := []) (LO := LO0) ⟨Tryz.func70, by kernel_rfl, by kernel_rfl⟩ (by kernel_rfl) fun ivs res bxs h => by
  unfold E_place at h
  split at h
  · rename_i p s q
    obtain ⟨hc, he⟩ := pick1 h
    cases he
    simp only [Bool.and_eq_true, decide_eq_true_eq] at hc
    obtain ⟨⟨⟨h1, h3⟩, hsz⟩, hB⟩ := hc
    obtain ⟨t, rfl, ht⟩ := isE_inv h1
    obtain ⟨xs, rfl, hx⟩ := isL_inv h3
    have e4 : asT (pT t) = t := asT_mk t
    have e5 : asL (pL xs) = xs := asL_mk xs
    rw [e4] at hB ⊢
    rw [e5]
    refine ⟨noLoop (by kernel_rfl), (q_place_eq t s xs).trans ?_⟩
    have hy : shN ⟨s, xs, ⟨#[]⟩⟩ := ⟨hsz, hx, Nat.zero_le _⟩
    have i2 : isN (PV.agg [PV.str s, PV.sl xs.length (xs.map PV.str), PV.str ⟨#[]⟩]) = true := isN_mk hy
    have e2 : asN (PV.agg [PV.str s, PV.sl xs.length (xs.map PV.str), PV.str ⟨#[]⟩]) = ⟨s, xs, ⟨#[]⟩⟩ := asN_mk ⟨s, xs, ⟨#[]⟩⟩
    have i1 := isNs_mk ht
    simp only [isNs, i1, i2, e2, asNs_mk, hB, Bool.and_true, Bool.true_and, Nat.beq_refl]
    rfl
  · cases h
theorem ok_ibb0 : EntriesOk Tryz.prog ibb0 := ⟨ok_place, ok_iba9⟩
theorem ok_get : EntryOk Tryz.prog 29 E_get := entry_of mix ok_ibb0 (lp := []) (LO := LO0) ⟨Tryz.func29, by kernel_rfl, by kernel_rfl⟩ (by kernel_rfl) fun ivs res bxs h => by
  unfold E_get at h
  split at h
  · rename_i p s q
    obtain ⟨hc, he⟩ := pick1 h
    cases he
    simp only [Bool.and_eq_true, decide_eq_true_eq] at hc
    obtain ⟨⟨⟨h1, h3⟩, hsz⟩, hB⟩ := hc
    obtain ⟨t, rfl, ht⟩ := isE_inv h1
    obtain ⟨xs, rfl, hx⟩ := isL_inv h3
    have e4 : asT (pT t) = t := asT_mk t
    have e5 : asL (pL xs) = xs := asL_mk xs
    rw [e4] at hB ⊢
    rw [e5]
    refine ⟨noLoop (by kernel_rfl), (q_get_eq t s xs).trans ?_⟩
    have hl := ht.1
    have i1 := isT_mk ht
    have i2 := isL_mk hx
    simp only [isT, isL, i1, i2, asT_mk, asL_mk, dT hsz, hB, Bool.and_true, Bool.true_and]
    unfold getV
    cases hH : hasAt t s xs with
    | false => rfl
    | true =>
      have hi := hasAt_lt hH
      rw [if_pos rfl, List.getElem?_eq_getElem hi]
      simp (disch := omega) only [dT, Int.toNat_natCast, drop_encN t _ hi, List.drop_zero, List.drop_succ_cons, List.length_cons, List.headD_cons, PV.isStr, PV.asStr, blt0, Bool.and_true]
      rfl
  · cases h
theorem ok_ibb1 : EntriesOk Tryz.prog ibb1 := ⟨ok_get, ok_ibb0⟩
noncomputable def getW (t : List NodeT) (s : ByteArray) (xs : List ByteArray) : Option ByteArray := if (treeB t && placeB s xs) = true then getV t s xs else none
noncomputable def E_GetNode : Entry := fun ivs => match ivs with
  | [.cv (.pv p), .cv (.pv (.str s)), .cv (.pv q)] => [(isT p && decide (s.size ≤ 1000000) && isL q, .tup [cS ((getW (asT p) s (asL q)).getD ⟨#[]⟩), cB (getW (asT p) s (asL q)).isSome], [])]
  | _ => []
theorem ok_GetNode : EntryOk Tryz.prog 9 E_GetNode := entry_of mix ok_ibb1 (lp := []) (LO := LO0) ⟨Tryz.func9, by kernel_rfl, by kernel_rfl⟩ (by kernel_rfl) fun ivs res bxs h => by
  unfold E_GetNode at h
  split at h
  · rename_i p s q
    obtain ⟨hc, he⟩ := pick1 h
    cases he
    simp only [Bool.and_eq_true, decide_eq_true_eq] at hc
    obtain ⟨⟨h1, hsz⟩, h3⟩ := hc
    obtain ⟨t, rfl, ht⟩ := isE_inv h1
    obtain ⟨xs, rfl, hx⟩ := isL_inv h3
    have e4 : asT (pT t) = t := asT_mk t
    have e5 : asL (pL xs) = xs := asL_mk xs
    rw [e4, e5]
    refine ⟨noLoop (by kernel_rfl), (q_GetNode_eq t s xs).trans ?_⟩
    have e1 := isT_mk ht
    have e2 := isL_mk hx
    simp only [isT, isL, e1, e2, asT_mk, asL_mk, dT hsz, Bool.and_true, Bool.true_and]
    unfold getW
    cases hB : treeB t with
    | false => rfl
    | true =>
      cases hP : placeB s xs with
      | false => rfl
      | true => rfl
  · cases h
end

section
open Go.RowKit
set_option linter.unusedVariables false
noncomputable def lab1 : List (FuncId × Entry) := (5, E_b10Long) :: (9, E_GetNode) :: sab5
abbrev lp_tk : List (Nat × List Nat × List Nat) := [(11, [5, 6, 7, 8, 9, 10], [4, 8, 9])]
noncomputable def LO_tk : LoopT := fun _ ls => match ls with
  | [(.ptr x 0, some (.box [.pv p])), (.pv (.str s), none), (.pv q, none), (.ptr y 0, some (.box [.pv r])), (.pv (.int .i64 c), none), (.pv (.int .i64 i), none)] =>
    [(isNs p && isL q && (i == 0) && (c == 0) && Nat.beq x 20480 && Nat.beq y 32768 && treeB (asNs p) && eqP r (pNs (killT (asNs p) s (asL q))), .exit 0, [aX, aBx 8 [.pv r], aI (killT (asNs p) s (asL q)).length])]
  | _ => []
end

section
set_option linter.unusedVariables false
set_option maxRecDepth 100000
end

section
open Go.RowKit
set_option linter.unusedVariables false
set_option linter.unusedSimpArgs false
set_option maxRecDepth 100000
theorem ok_lab1 : EntriesOk Tryz.prog lab1 := ⟨ok_b10Long, ok_GetNode, ok_sab5⟩
theorem locLt_irrefl (a : ByteArray) (x : List ByteArray) : locLt a x a x = false := by
  unfold locLt
  rw [strLt_irrefl, subsLt_irrefl, Bool.and_false]
  rfl
/-- Of a right tree each part in order is right. -/
theorem chainB_mk : ∀ (t : List NodeT) (p : Option NodeT), (∀ x ∈ t, nodeB x = true) → t.Pairwise (fun x y => nodeLt x y = true) → (∀ y, p = some y → ∀ x ∈ t, nodeLt y x = true) → chainB p t = true
  | [], _, _, _, _ => rfl
  | x :: t, p, h1, h2, h3 => by
    unfold chainB
    obtain ⟨h4, h5⟩ := List.pairwise_cons.1 h2
    rw [chainB_mk t (some x) (fun y hy => h1 y (List.mem_cons_of_mem _ hy)) h5 (fun y hy z hz => by cases hy; exact h4 z hz), h1 x (by simp)]
    cases p with
    | none => rfl
    | some y =>
      have := h3 y rfl x (by simp)
      dsimp only
      rw [this]
      rfl
theorem treeB_filter {t : List NodeT} (h : treeB t = true) (f : NodeT → Bool) : treeB (t.filter f) = true := by
  obtain ⟨h1, h2, h3⟩ := treeB_ok h
  unfold treeB
  rw [chainB_mk _ none (fun x hx => h2 x (List.mem_filter.1 hx).1) (h3.filter f) (fun y hy => by cases hy), dT (Nat.le_trans (List.length_filter_le _ _) h1)]
  rfl
/-- What stands in a right tree is found. -/
theorem loc_at {t : List NodeT} (h : treeB t = true) {k : Nat} (hk : k < t.length) : locIdx t t[k].name t[k].subs = k := by
  have hpw := List.pairwise_iff_getElem.1 (treeB_ok h).2.2
  have h1 := sort_loc h t[k].name t[k].subs hk
  rw [locLt_irrefl] at h1
  have h1 := of_decide_eq_false h1.symm
  rcases Nat.lt_or_ge (locIdx t t[k].name t[k].subs) k with hlt | hge
  · have h2 := sort_loc h t[k].name t[k].subs (h := locIdx t t[k].name t[k].subs) (by omega)
    have := of_decide_eq_true (h2.symm.trans (hpw _ k (by omega) hk hlt))
    omega
  · omega
theorem hasAt_mem {t : List NodeT} (h : treeB t = true) {k : Nat} (hk : k < t.length) : hasAt t t[k].name t[k].subs = true := by
  unfold hasAt
  rw [loc_at h hk, List.drop_eq_getElem_cons hk]
  dsimp only
  rw [sEq_self, show sameX t[k].subs t[k].subs = true from holds_mk rfl]
  rfl
theorem getV_mem {t : List NodeT} (h : treeB t = true) {x : NodeT} (hx : x ∈ t) : getV t x.name x.subs = some x.value := by
  obtain ⟨k, hk, rfl⟩ := List.mem_iff_getElem.1 hx
  unfold getV
  rw [hasAt_mem h hk, if_pos rfl, loc_at h hk, List.getElem?_eq_getElem hk]
  rfl
theorem nodeB_place {x : NodeT} (h : nodeB x = true) : placeB x.name x.subs = true := by
  unfold nodeB at h
  rw [Bool.and_eq_true] at h
  exact h.1
theorem getW_mem {t : List NodeT} (h : treeB t = true) {x : NodeT} (hx : x ∈ t) : getW t x.name x.subs = some x.value := by
  unfold getW
  rw [h, nodeB_place ((treeB_ok h).2.1 x hx), Bool.and_self, if_pos rfl, getV_mem h hx]
theorem dataF_none (s : ByteArray) (xs : List ByteArray) : ∀ (t : List NodeT) (c : Int), (∀ x ∈ t, inX x s xs = false) → dataF s xs t c = c
  | [], c, _ => rfl
  | x :: t, c, h => by
    unfold dataF
    rw [h x (by simp), if_neg Bool.false_ne_true]
    exact dataF_none s xs t c fun y hy => h y (List.mem_cons_of_mem _ hy)
theorem killT_out {t : List NodeT} {s : ByteArray} {xs : List ByteArray} {x : NodeT} (h : x ∈ killT t s xs) : inX x s xs = false := by
  have := (List.mem_filter.1 h).2
  simpa using this
end

section
open Go.RowKit
set_option linter.unusedVariables false
set_option linter.unusedSimpArgs false

theorem subsLt_total : ∀ {x y : List ByteArray}, x ≠ y → subsLt x y = true ∨ subsLt y x = true
  | [], [], h => absurd rfl h
  | [], _ :: _, _ => .inl rfl
  | _ :: _, [], _ => .inr rfl
  | a :: x, b :: y, h => by
    unfold subsLt
    by_cases hab : sEq a b = true
    · obtain rfl := sEq_iff.1 hab
      rw [if_pos hab]
      rw [if_pos hab]
      exact subsLt_total fun e => h (congrArg (a :: ·) e)
    · have hba : ¬ sEq b a = true := fun e => hab (by obtain rfl := sEq_iff.1 e; exact sEq_self _)
      rw [if_neg hab, if_neg hba]
      have hne : a.data.toList ≠ b.data.toList := fun e => hab (sEq_iff.2 (ByteArray.ext (Array.ext' e)))
      have := before_total hne
      rw [Bool.or_eq_true] at this
      exact this
theorem locLt_total {a b : ByteArray} {x y : List ByteArray} (h : ¬ (a = b ∧ x = y)) : locLt a x b y = true ∨ locLt b y a x = true := by
  unfold locLt
  by_cases hab : a = b
  · subst hab
    rw [sEq_self]
    rcases subsLt_total (fun e => h ⟨rfl, e⟩) with k | k
    · left; rw [k]; simp
    · right; rw [k]; simp
  · have := strLt_total hab
    rw [Bool.or_eq_true] at this
    rcases this with k | k
    · left; rw [k]; rfl
    · right; rw [k]; rfl
noncomputable abbrev putK (t : List NodeT) (s : ByteArray) (xs : List ByteArray) : Nat := if hasAt t s xs = true then locIdx t s xs + 1 else locIdx t s xs
section
variable {t : List NodeT} {s : ByteArray} {xs : List ByteArray} {v : ByteArray}
theorem hasAt_inv (h : hasAt t s xs = true) : ∃ hl : locIdx t s xs < t.length, t[locIdx t s xs].name = s ∧ t[locIdx t s xs].subs = xs := by
  have hl := hasAt_lt h
  refine ⟨hl, ?_⟩
  unfold hasAt at h
  rw [List.drop_eq_getElem_cons hl] at h
  dsimp only at h
  rw [Bool.and_eq_true] at h
  exact ⟨sEq_iff.1 h.1, holds_inv h.2⟩
theorem put_at (hB : treeB t = true) {h : Nat} (hl : h < t.length) (hge : putK t s xs ≤ h) : locLt s xs t[h].name t[h].subs = true := by
  have hk : locIdx t s xs ≤ h := by unfold putK at hge; split at hge <;> omega
  by_cases he : t[h].name = s ∧ t[h].subs = xs
  · exfalso
    obtain ⟨e1, e2⟩ := he
    have h1 := loc_at hB hl
    have h2 := hasAt_mem hB hl
    rw [e1, e2] at h1 h2
    unfold putK at hge
    rw [if_pos h2] at hge
    omega
  · rcases locLt_total he with h1 | h1
    · rw [sort_loc hB s xs hl] at h1
      have := of_decide_eq_true h1
      omega
    · exact h1
theorem put_head (hB : treeB t = true) : ∀ x ∈ t.take (locIdx t s xs), locLt x.name x.subs s xs = true := by
  intro x hx
  obtain ⟨k, hk, rfl⟩ := List.mem_iff_getElem.1 hx
  rw [List.length_take] at hk
  rw [List.getElem_take, sort_loc hB s xs (by omega)]
  exact decide_eq_true (by omega)
theorem put_tail (hB : treeB t = true) : ∀ x ∈ t.drop (putK t s xs), locLt s xs x.name x.subs = true := by
  intro x hx
  obtain ⟨k, hk, rfl⟩ := List.mem_iff_getElem.1 hx
  rw [List.length_drop] at hk
  rw [List.getElem_drop]
  exact put_at hB _ (Nat.le_add_right _ _)
theorem putT_size : (putT t s xs v).length = if hasAt t s xs = true then t.length else t.length + 1 := by
  have hle : locIdx t s xs ≤ t.length := tw_le _ _
  unfold putT
  rw [List.length_append, List.length_append, List.length_take, List.length_drop, List.length_singleton]
  split
  · rename_i h
    have := hasAt_lt h
    omega
  · omega
theorem putT_own : (⟨s, xs, v⟩ : NodeT) ∈ putT t s xs v := by unfold putT; simp
theorem putT_B (hB : treeB t = true) (hP : placeB s xs = true) (hv : v.size ≤ 64) (hr : hasAt t s xs = true ∨ t.length < 120) : treeB (putT t s xs v) = true := by
  obtain ⟨h1, h2, h3⟩ := treeB_ok hB
  have hd : ∀ x ∈ t.take (locIdx t s xs), locLt x.name x.subs s xs = true := put_head hB
  have ht : ∀ x ∈ t.drop (putK t s xs), locLt s xs x.name x.subs = true := put_tail hB
  have hn : nodeB ⟨s, xs, v⟩ = true := by unfold nodeB; rw [hP, dT hv]; rfl
  have hlen : (putT t s xs v).length ≤ 120 := by
    rw [putT_size]
    split
    · exact h1
    · rename_i h
      rcases hr with hr | hr
      · exact absurd hr h
      · omega
  have hall : ∀ x ∈ putT t s xs v, nodeB x = true := by
    intro x hx
    unfold putT at hx
    rcases List.mem_append.1 hx with hx | hx
    · rcases List.mem_append.1 hx with hx | hx
      · exact h2 x (List.mem_of_mem_take hx)
      · rw [List.mem_singleton.1 hx]; exact hn
    · exact h2 x (List.mem_of_mem_drop hx)
  have hpw : (putT t s xs v).Pairwise (fun x y => nodeLt x y = true) := by
    unfold putT
    refine List.pairwise_append.2 ⟨List.pairwise_append.2 ⟨h3.sublist (List.take_sublist _ _), List.pairwise_singleton _ _, fun a ha b hb => ?_⟩, h3.sublist (List.drop_sublist _ _), fun a ha b hb => ?_⟩
    · rw [List.mem_singleton.1 hb]
      exact hd a ha
    · rcases List.mem_append.1 ha with ha | ha
      · exact locLt_trans (hd a ha) (ht b hb)
      · rw [List.mem_singleton.1 ha]
        exact ht b hb
  unfold treeB
  rw [chainB_mk _ none hall hpw (fun y hy => by cases hy), dT hlen]
  rfl
/-- What was there is there, but for the place itself. -/
theorem putT_kept {x : NodeT} (hx : x ∈ t) : (x.name = s ∧ x.subs = xs) ∨ x ∈ putT t s xs v := by
  obtain ⟨j, hj, rfl⟩ := List.mem_iff_getElem.1 hx
  unfold putT
  by_cases h1 : j < locIdx t s xs
  · exact .inr (List.mem_append.2 (.inl (List.mem_append.2 (.inl (List.mem_iff_getElem.2 ⟨j, by rw [List.length_take]; omega, by rw [List.getElem_take]⟩)))))
  by_cases h2 : putK t s xs ≤ j
  · refine .inr (List.mem_append.2 (.inr ?_))
    show t[j] ∈ t.drop (putK t s xs)
    generalize putK t s xs = K at h2 ⊢
    refine List.mem_iff_getElem.2 ⟨j - K, by rw [List.length_drop]; omega, ?_⟩
    rw [List.getElem_drop]
    congr 1
    omega
  · left
    unfold putK at h2
    split at h2
    · rename_i h
      obtain ⟨hl, e1, e2⟩ := hasAt_inv h
      have : j = locIdx t s xs := by omega
      subst this
      exact ⟨e1, e2⟩
    · omega
theorem inX_len {x : NodeT} (h : inX x s xs = true) (hl : x.subs.length = xs.length) : x.name = s ∧ x.subs = xs := by
  unfold inX begX at h
  rw [Bool.and_eq_true, Bool.and_eq_true] at h
  refine ⟨sEq_iff.1 h.1, ?_⟩
  have := holds_inv h.2.2
  rwa [List.take_of_length_le (by omega)] at this
theorem inX_self (s : ByteArray) (xs : List ByteArray) (v : ByteArray) : inX ⟨s, xs, v⟩ s xs = true := by
  unfold inX begX
  dsimp only
  rw [sEq_self, dT (Nat.le_refl _), List.take_length, show sameX xs xs = true from holds_mk rfl]
  rfl
theorem dataF_off (s : ByteArray) (xs : List ByteArray) (d : Int) (hd : d = 0 ∨ d = 1) : ∀ (t : List NodeT) (c : Int), (∀ x ∈ t, ¬ (x.name = s ∧ x.subs = xs)) → (c = d ∨ c = 10 + d) → (dataF s xs t c = d ∨ dataF s xs t c = 10 + d)
  | [], c, _, h => h
  | x :: t, c, hn, h => by
    unfold dataF
    refine dataF_off s xs d hd t _ (fun y hy => hn y (List.mem_cons_of_mem _ hy)) ?_
    split
    · rename_i hin
      rw [if_neg (fun hl => hn x (by simp) (inX_len hin hl))]
      split <;> omega
    · exact h
theorem putT_data (hB : treeB t = true) : dataF s xs (putT t s xs v) 0 = 1 ∨ dataF s xs (putT t s xs v) 0 = 11 := by
  have hd : ∀ x ∈ t.take (locIdx t s xs), ¬ (x.name = s ∧ x.subs = xs) := fun x hx e => by
    have := put_head hB (s := s) (xs := xs) x hx
    rw [e.1, e.2, locLt_irrefl] at this
    cases this
  have ht : ∀ x ∈ t.drop (putK t s xs), ¬ (x.name = s ∧ x.subs = xs) := fun x hx e => by
    have := put_tail hB (s := s) (xs := xs) x hx
    rw [e.1, e.2, locLt_irrefl] at this
    cases this
  unfold putT
  rw [dataF_app, dataF_app]
  have h1 := dataF_off s xs 0 (.inl rfl) _ 0 hd (.inl rfl)
  have h2 : dataF s xs [⟨s, xs, v⟩] (dataF s xs (t.take (locIdx t s xs)) 0) = dataF s xs (t.take (locIdx t s xs)) 0 + 1 := by
    generalize dataF s xs (t.take (locIdx t s xs)) 0 = c
    unfold dataF
    rw [if_pos (inX_self s xs v), if_pos rfl]
    rfl
  rw [h2]
  exact dataF_off s xs 1 (.inr rfl) _ _ ht (by omega)
theorem putT_get (hB : treeB t = true) (hP : placeB s xs = true) (hv : v.size ≤ 64) (hr : hasAt t s xs = true ∨ t.length < 120) : getW (putT t s xs v) s xs = some v :=
  getW_mem (putT_B hB hP hv hr) (x := ⟨s, xs, v⟩) putT_own
end
end

section
open Go.RowKit
set_option linter.unusedVariables false

/-- copy at elements of several cells. -/
theorem run_copy_rowK {P : Program} (w : World) (dT sT ty elem : TypeId) (i : TypeInfo) (g o dLen dCap : Nat) (a : Addr) (sLen sCap m : Nat) (cur : Array Value) (t : TypeId) (cs : List Value)
    (hu : P.underlying dT = some (.slice elem)) (hs : P.info? elem = some i)
    (hg : w.heap[g]? = some (.cells cur t (0, 0))) (hm : Nat.min sLen dLen = m) (hn : cs.length = m * i.size)
    (hsrc : ∀ j v, cs[j]? = some v → w.cell? (a.add j) = some v) (hfit : o + cs.length ≤ cur.size) (h1 : ∀ v ∈ cs, v.oneCell' = true) :
    (Builtin.copy_ #[dT, sT] ty #[.slice (some ⟨g, o, none⟩) dLen dCap, .slice (some a) sLen sCap]).run P w =
      .ok (goInt m) (w.setRow g (cur.toList.take o ++ cs ++ cur.toList.drop (o + cs.length)).toArray) := by
  have hl := run_loadCells_list (P := P) w a cs hsrc
  have hst := run_storeCells_at P g o t cs 0 cur w hg (by simpa using hfit) h1
  simp [Builtin.copy_, run_underlying hu, Builtin.lenOf, Builtin.firstCells, sizeOf, typeInfo, hs, hm, ← hn, hl, hst]

theorem ins_room {α : Type} (C xs vs : List α) (a p q : Nat) (hx : C.take q = xs) (hq : xs.length = q) (ha : a ≤ q) (hv : vs.length = p) (hC : q + p ≤ C.length) :
    ((C.take (a + p) ++ xs.drop a ++ C.drop (a + p + (xs.drop a).length)).take a ++ vs ++ (C.take (a + p) ++ xs.drop a ++ C.drop (a + p + (xs.drop a).length)).drop (a + vs.length)).take (q + p) = xs.take a ++ vs ++ xs.drop a ∧
    ((C.take (a + p) ++ xs.drop a ++ C.drop (a + p + (xs.drop a).length)).take a ++ vs ++ (C.take (a + p) ++ xs.drop a ++ C.drop (a + p + (xs.drop a).length)).drop (a + vs.length)).length = C.length ∧
    (C.take (a + p) ++ xs.drop a ++ C.drop (a + p + (xs.drop a).length)).length = C.length := by
  have h1 : (C.take (a + p)).length = a + p := by rw [List.length_take]; omega
  have hd : (xs.drop a).length = q - a := by rw [List.length_drop, hq]
  have e1 : (C.take (a + p) ++ xs.drop a ++ C.drop (a + p + (xs.drop a).length)).take a = xs.take a := by
    rw [List.append_assoc, List.take_append_of_le_length (by omega), List.take_take, ← hx, List.take_take]
    congr 1
    omega
  have e2 : (C.take (a + p) ++ xs.drop a ++ C.drop (a + p + (xs.drop a).length)).drop (a + vs.length) = xs.drop a ++ C.drop (a + p + (xs.drop a).length) := by
    rw [hv, List.append_assoc]
    exact List.drop_left' h1
  have l1 : (xs.take a).length = a := by rw [List.length_take]; omega
  rw [e1, e2]
  refine ⟨?_, ?_, ?_⟩
  · rw [← List.append_assoc]
    have : (xs.take a ++ vs ++ xs.drop a).length = q + p := by rw [List.length_append, List.length_append, l1, hv, hd]; omega
    conv => lhs; rw [← this]
    exact List.take_left
  · rw [List.length_append, List.length_append, List.length_append, l1, hv, hd, List.length_drop]; omega
  · rw [List.length_append, List.length_append, h1, hd, List.length_drop]; omega

theorem ins_grow {α : Type} (R xs vs : List α) (a p q : Nat) (hx : R.take a = xs.take a) (hq : xs.length = q) (ha : a ≤ q) (hv : vs.length = p) (hR : q + p ≤ R.length) :
    ((R.take a ++ vs ++ R.drop (a + vs.length)).take (a + p) ++ xs.drop a ++ (R.take a ++ vs ++ R.drop (a + vs.length)).drop (a + p + (xs.drop a).length)).take (q + p) = xs.take a ++ vs ++ xs.drop a ∧
    ((R.take a ++ vs ++ R.drop (a + vs.length)).take (a + p) ++ xs.drop a ++ (R.take a ++ vs ++ R.drop (a + vs.length)).drop (a + p + (xs.drop a).length)).length = R.length ∧
    (R.take a ++ vs ++ R.drop (a + vs.length)).length = R.length := by
  have l1 : (xs.take a).length = a := by rw [List.length_take]; omega
  have hd : (xs.drop a).length = q - a := by rw [List.length_drop, hq]
  rw [hx]
  have h1 : (xs.take a ++ vs).length = a + p := by rw [List.length_append, l1, hv]
  have e1 : (xs.take a ++ vs ++ R.drop (a + vs.length)).take (a + p) = xs.take a ++ vs := by
    conv => lhs; rw [← h1]
    exact List.take_left
  have e3 : (xs.take a ++ vs ++ R.drop (a + vs.length)).length = R.length := by rw [List.length_append, h1, List.length_drop, hv]; omega
  rw [e1]
  refine ⟨?_, ?_, e3⟩
  · have : (xs.take a ++ vs ++ xs.drop a).length = q + p := by rw [List.length_append, h1, hd]; omega
    conv => lhs; rw [← this]
    exact List.take_left
  · rw [List.length_append, List.length_append, List.length_drop (l := xs.take a ++ vs ++ R.drop (a + vs.length)), e3, h1, hd]; omega

/-- What the walk of an insertion shows. -/
abbrev InsPost (e : TypeId) (k : Nat) (w : World) (v : Value) (n : Nat) (ys : List Value) (ex : Ending) (w' : World) : Prop :=
  ∃ v', ex = .returned v' ∧ w'.ownsRow 0 e k v' n ys ∧ ((v'.ownBlock = v.ownBlock ∧ w.grownBy w' v.ownBlock) ∨ (v'.ownBlock = some w.heap.size ∧ w.grownBy w' none))
abbrev InsWalk (P : Program) (g : FuncId) (e : TypeId) (k : Nat) : Prop :=
  ∀ (w : World) (v u : Value) (n i : Nat) (xs us : List Value), w.ownsRow 0 e k v n xs → w.ownsRow 0 e k u 1 us → (∀ x ∈ xs, x.oneCell' = true) → (∀ x ∈ us, x.oneCell' = true) → (∀ b, v.ownBlock = some b → u.ownBlock ≠ some b) → i ≤ n → n ≤ 1000000 →
    Calls P g #[v, .int .i64 i, u] w (InsPost e k w v (n + 1) (xs.take (i * k) ++ us ++ xs.drop (i * k)))

theorem brep3 {w : World} {com : Nat → Nat} {v x u : Value} {a b c : CV} : BRep w com [v, x, u] [.cv a, .cv b, .cv c] [] [] := .other _ _ _ _ _ _ rfl (.other _ _ _ _ _ _ rfl (.other _ _ _ _ _ _ rfl .nil))
theorem insert_core {P : Program} {g : FuncId} {e : TypeId} {k : Nat} (he : e < 1000000) (hw : InsWalk P g e k) {n i : Nat} {l ul : List PV} {mt : Bool} (hi : i ≤ n) (hn : n ≤ 1000000) {w : World} {com : Nat → Nat} {v x u : Value} {xs us : List Value} {a b c : CV} {B : List Nat}
    (hv : w.ownsRow 0 e k v n xs) (hr : PReps w com xs l) (h1 : ∀ y ∈ xs, y.oneCell' = true) (hc : ∀ b, v.ownBlock = some b → com b = 0) (hx : x = .int .i64 i) (hu : LRep w com u k e 1 ul mt us)
    (hnd : ∀ b, v.ownBlock = some b → u.ownBlock ≠ some b) (hB : ∀ b, v.ownBlock = some b → b ∈ B) (hfresh : ∀ b, w.heap.size ≤ b → com b = 0) :
    Calls P g #[v, x, u] w (fun ex w' => ∃ r com' rbs bbs, ex = .returned r ∧ Ext w com w' com' ∧ Fr w.heap.size (fun b => b ∈ B) w w' ∧ (∀ b, w'.heap.size ≤ b → com' b = 0) ∧ (∀ b, b < w.heap.size → b ∉ B → com' b = com b) ∧
      RRep w' com' r (.cv (.lst k e (n + 1) (l.take (i * k) ++ ul ++ l.drop (i * k)) true)) rbs ∧ BRep w' com' [v, x, u] [.cv a, .cv b, .cv c] [] bbs ∧ (rbs ++ bbs).Nodup ∧ ∀ b ∈ rbs ++ bbs, b ∈ B ∨ w.heap.size ≤ b) := by
  subst hx
  refine (hw w v u n i xs us hv (hu.own.row he) h1 hu.one hnd hi hn).mono ?_
  rintro ex w' ⟨v', rfl, ho, hb⟩
  have hsz : w.heap.size ≤ w'.heap.size := by rcases hb with ⟨_, h⟩ | ⟨_, h⟩ <;> exact h.size
  have hblk : ∀ b, b < w.heap.size → v.ownBlock ≠ some b → w'.heap[b]? = w.heap[b]? := fun b hlt hne => by
    rcases hb with ⟨_, h⟩ | ⟨_, h⟩
    · exact h.block b hlt fun e => hne e.symm
    · exact h.block b hlt (by simp)
  have hx : Ext w com w' com := ⟨fun b => Nat.le_refl _, fun b j hj => by
    have hlt : b < w.heap.size := by
      rcases Nat.lt_or_ge b w.heap.size with h | h
      · exact h
      · rw [hfresh b h] at hj; exact absurd hj (Nat.not_lt_zero _)
    exact contract_flatG.cell_of_block (hblk b hlt fun e => by rw [hc b e] at hj; exact absurd hj (Nat.not_lt_zero _))⟩
  have hnew : ∀ b, v'.ownBlock = some b → (v.ownBlock = some b ∨ b = w.heap.size) := fun b e => by
    rcases hb with ⟨h, _⟩ | ⟨h, _⟩
    · exact .inl (h ▸ e)
    · right; rw [h] at e; exact (Option.some.inj e).symm
  have hL : LRep w' com v' k e (n + 1) (l.take (i * k) ++ ul ++ l.drop (i * k)) true (xs.take (i * k) ++ us ++ xs.drop (i * k)) := by
    refine ⟨.of ho he, ((((hr.take _).append hu.reps).append (hr.drop _)).mono hx), fun y hy => ?_, fun b e => ?_⟩
    · rcases List.mem_append.1 hy with hy | hy
      · rcases List.mem_append.1 hy with hy | hy
        · exact h1 y (List.mem_of_mem_take hy)
        · exact hu.one y hy
      · exact h1 y (List.mem_of_mem_drop hy)
    · rcases hnew b e with h | h
      · exact hc b h
      · exact hfresh b (by omega)
  refine ⟨v', com, v'.ownBlock.toList, [], rfl, hx, ?_, fun b h => hfresh b (by omega), fun b _ _ => rfl, .one _ _ _ (.cv _ _ _ (.lst v' k e _ _ true _ hL)), ?_, ?_, ?_⟩
  · refine ⟨?_, ?_, ?_, hsz, fun b hlt hnb => hblk b hlt fun e => hnb (hB b e)⟩ <;> rcases hb with ⟨_, h⟩ | ⟨_, h⟩ <;> first | exact h.os | exact h.tape | exact h.output
  · exact brep3
  · rw [List.append_nil]
    cases v'.ownBlock <;> simp
  · intro b hb'
    rw [List.append_nil] at hb'
    rcases hnew b (Option.mem_toList.1 hb') with h | h
    · exact .inl (hB b h)
    · exact .inr (by omega)
theorem contract_insert {P : Program} {g : FuncId} {e : TypeId} {k : Nat} (he : e < 1000000) (hw : InsWalk P g e k) {n i : Nat} {l ul : List PV} {mt : Bool} (hi : i ≤ n) (hn : n ≤ 1000000) :
    Contract P g [.cv (.lst k e n l true), .cv (.pv (.int .i64 i)), .cv (.lst k e 1 ul mt)] (.cv (.lst k e (n + 1) (l.take (i * k) ++ ul ++ l.drop (i * k)) true)) [] := by
  intro w com vals bs hI hnd hfresh hgl
  cases hI with
  | @cons v _ b1 _ _ _ h1 hI =>
    cases hI with
    | @cons x _ b2 _ _ _ h2 hI =>
      cases hI with
      | @cons u _ b3 _ _ _ h3 hI =>
        cases hI
        cases h1 with
        | cv _ _ _ h1 =>
          cases h1 with
          | lst _ _ _ _ _ xs hL =>
            cases h2 with
            | cv _ _ _ h2 =>
              cases h2 with
              | pv _ h2 =>
                cases h3 with
                | cv _ _ _ h3 =>
                  cases h3 with
                  | lst _ _ _ _ _ us hU =>
                    cases h2
                    refine insert_core he hw hi hn (hL.own.row he) hL.reps hL.one (fun b hb => hL.com b hb) rfl hU (fun b hb hb' => ?_) (fun b hb => ?_) hfresh
                    · rw [hb, hb'] at hnd
                      simp at hnd
                    · rw [hb]
                      simp
/-- .. into nil. -/
theorem contract_insert0 {P : Program} {g : FuncId} {e : TypeId} {k : Nat} (he : e < 1000000) (hw : InsWalk P g e k) {ul : List PV} {mt : Bool} :
    Contract P g [.cv (.pv .nils), .cv (.pv (.int .i64 0)), .cv (.lst k e 1 ul mt)] (.cv (.lst k e 1 ul true)) [] := by
  intro w com vals bs hI hnd hfresh hgl
  cases hI with
  | @cons v _ b1 _ _ _ h1 hI =>
    cases hI with
    | @cons x _ b2 _ _ _ h2 hI =>
      cases hI with
      | @cons u _ b3 _ _ _ h3 hI =>
        cases hI
        cases h1 with
        | cv _ _ _ h1 =>
          cases h1 with
          | pv _ h1 =>
            cases h2 with
            | cv _ _ _ h2 =>
              cases h2 with
              | pv _ h2 =>
                cases h3 with
                | cv _ _ _ h3 =>
                  cases h3 with
                  | lst _ _ _ _ _ us hU =>
                    cases h2
                    cases h1
                    have := insert_core he hw (n := 0) (i := 0) (l := []) (a := .pv .nils) (b := .pv (.int .i64 0)) (c := .lst k e 1 ul mt) (B := [] ++ ([] ++ (u.ownBlock.toList ++ []))) (Nat.le_refl _) (by omega) (World.ownsRow_nil w 0 e k) (PReps.nil _ _) (fun y hy => by cases hy) (fun b hb => by cases hb) rfl hU (fun b hb => by cases hb) (fun b hb => by cases hb) hfresh
                    simpa using this
end

section
open Go.RowKit
set_option linter.unusedVariables false
set_option linter.unusedSimpArgs false

theorem andE {a b : Bool} (h : (a && b) = true) : a = true ∧ b = true := by
  cases a <;> cases b <;> simp_all
theorem pick3n {α : Type} {a b c : Bool} {x y z q : α} (h : pickA [(a, x), (b, y), (c, z)] = some q) : (a = true ∧ x = q) ∨ (a = false ∧ b = true ∧ y = q) ∨ (a = false ∧ b = false ∧ c = true ∧ z = q) := by
  cases a with
  | true => cases h; exact .inl ⟨rfl, rfl⟩
  | false => exact .inr ((pick2 h).elim (fun k => .inl ⟨rfl, k⟩) (fun k => .inr ⟨rfl, k⟩))
/-- The first that is wanted. -/
def idxV {α : Type} (p : α → Bool) (xs : List α) : Nat := (xs.takeWhile fun x => !p x).length
theorem idxV_in {α : Type} {p : α → Bool} {x : α} {t : List α} (h : p x = true) : idxV p (x :: t) = 0 := by unfold idxV; rw [List.takeWhile_cons, h]; rfl
theorem idxV_out {α : Type} {p : α → Bool} {x : α} {t : List α} (h : p x = false) : idxV p (x :: t) = idxV p t + 1 := by unfold idxV; rw [List.takeWhile_cons, h]; rfl
theorem idxV_le {α : Type} (p : α → Bool) (t : List α) : idxV p t ≤ t.length := by unfold idxV; exact (List.takeWhile_sublist _).length_le
theorem idxV_any {α : Type} (p : α → Bool) : ∀ t : List α, decide (idxV p t < t.length) = t.any p
  | [] => rfl
  | x :: t => by
    rw [List.any_cons]
    cases h : p x with
    | true => rw [idxV_in h]; simp
    | false => rw [idxV_out h, Bool.false_or, ← idxV_any p t, List.length_cons]; simp
theorem ifIdxV (k n : Nat) : decide ((if k < n then (k : Int) else -1) ≥ 0) = decide (k < n) := by
  by_cases h : k < n
  · rw [if_pos h, dT h, dT (by omega)]
  · rw [if_neg h, dF h, dF (by omega)]
theorem ble4 (n : Nat) : Nat.ble 4 (n + 1 + 1 + 1 + 1) = true := Nat.ble_eq_true_of_le (by omega)
theorem ble5 (n : Nat) : Nat.ble 5 (n + 1 + 1 + 1 + 1 + 1) = true := Nat.ble_eq_true_of_le (by omega)
theorem ble6 (n : Nat) : Nat.ble 6 (n + 1 + 1 + 1 + 1 + 1 + 1) = true := Nat.ble_eq_true_of_le (by omega)
theorem holds_true : holds True = true := holds_mk trivial
/-! Lists of numbers. -/
abbrev pI (xs : List Int) : PV := .sl xs.length (xs.map (PV.int .i64))
theorem map_int_inj : ∀ {xs ys : List Int}, xs.map (PV.int .i64) = ys.map (PV.int .i64) → xs = ys
  | [], [], _ => rfl
  | [], _ :: _, h => by cases h
  | _ :: _, [], h => by cases h
  | x :: xs, y :: ys, h => by
    rw [List.map_cons, List.map_cons] at h
    injection h with h1 h2
    injection h1 with _ h1
    rw [h1, map_int_inj h2]
theorem pI_inj (xs ys : List Int) (h : pI xs = pI ys) : xs = ys := by
  injection h with _ h
  exact map_int_inj h
theorem drop_ints (xs : List Int) (i : Nat) (h : i < xs.length) : (xs.map (PV.int .i64)).drop (i * 1) = .int .i64 xs[i] :: (xs.drop (i + 1)).map (PV.int .i64) := by
  rw [Nat.mul_one, ← List.map_drop, List.drop_eq_getElem_cons h]
  rfl
def shI (xs : List Int) : Prop := xs.length ≤ 100000 ∧ ∀ s ∈ xs, -9223372036854775808 ≤ s ∧ s ≤ 9223372036854775807
noncomputable abbrev isI (p : PV) : Bool := isE pI shI p
noncomputable abbrev asI (p : PV) : List Int := asE pI p
theorem isI_mk {xs : List Int} (h : shI xs) : isE pI shI (PV.sl xs.length (xs.map (PV.int .i64))) = true := isE_mk (enc := pI) h
theorem asI_mk (xs : List Int) : asE pI (PV.sl xs.length (xs.map (PV.int .i64))) = xs := asE_mk pI_inj xs
theorem ints_beq (xs : List Int) : Nat.beq (xs.map (PV.int .i64)).length xs.length = true := by rw [List.length_map]; exact Nat.beq_refl _
end

section
open Go.RowKit Go.Lib
set_option linter.unusedVariables false
set_option linter.unusedSimpArgs false

/-- 'copy' where its run is known by an equation. -/
theorem wpList_copyI {P : Program} (w : World) {ops : Array Oper} {rest : List Oper} {o : Oper} {a : Act} {Q : Exit → Act → World → Prop} (hgd : o.guard = none) (d s : Operand) (t t' : TypeId)
    (ho : o.op = .call { callee := .builtin .copy, args := #[d, s], argTypes := #[t, t'] }) (v u : Value) (hd : a.eval d = v) (hs : a.eval s = u) {v' : Value} {w' : World}
    (hr : (Builtin.copy_ #[t, t'] o.type #[v, u]).run P w = .ok v' w') (h : wpList P ops Q rest (a.put o.dst v') w') : wpList P ops Q (o :: rest) a w :=
  wpList_plain hgd fun _ hK => by
    unfold Oper.wp execOp
    simp only [ho, resolve, invoke, builtin, Sem.run_bind, Sem.run_pure, Result.andThen_ok, List.map_toArray, List.map_cons, List.map_nil, hd, hs, hr]
    exact hK _ _ h
/-- .. as one step of a region that draws. -/
theorem step_copyI {P : Program} {ops : Array Oper} {o : Oper} {a : Act} {w : World} {K : Act → World → Prop} {Q : Exit → Act → World → Prop} {E : Prop}
    (hg : o.guard = none) (d x : Operand) (dT sT : TypeId) (hop : o.op = Op.call { callee := Callee.builtin Builtin.copy, args := #[d, x], argTypes := #[dT, sT] })
    (v u : Value) (hd : a.eval d = v) (hx : a.eval x = u) {v' : Value} {w' : World} (hr : (Builtin.copy_ #[dT, sT] o.type #[v, u]).run P w = .ok v' w') (hK : K (a.put o.dst v') w') :
    if Region.wanted o (yielded ops a.tmps) = true then Oper.wp P o a w K Q else E := by
  have hw : Region.wanted o (yielded ops a.tmps) = true := by simp [Region.wanted, hg]
  rw [if_pos hw]
  unfold Oper.wp
  simp [execOp, hop, resolve, invoke, builtin, hd, hx, hr, Result.andThen]
  exact hK
theorem nodeI_info : (Tryz.prog.info? 33).map (fun i => (i.zero, i.size, i.bytes)) = some (some (.agg #[.string ⟨#[]⟩, .slice none 0 0, .string ⟨#[]⟩]), 3, 56) := by kernel_rfl
theorem nodesI_under : Tryz.prog.underlying 24 = some (.slice 33) := by kernel_rfl

set_option maxHeartbeats 4000000 in
set_option maxRecDepth 100000 in
/-- At the end: by append. -/
theorem insN_end (w : World) (v : Value) (n : Nat) (xs us : List Value) (vb vc : Nat) (hv : w.ownsRow 0 33 3 v n xs) (hu : w.ownsRow 0 33 3 (.slice (some ⟨vb, 0, none⟩) 1 vc) 1 us) (h1 : ∀ x ∈ us, x.oneCell' = true) (hn : n ≤ 1000000) :
    Calls Tryz.prog 103 #[v, .int .i64 n, .slice (some ⟨vb, 0, none⟩) 1 vc] w (InsPost 33 3 w v (n + 1) (xs ++ us)) := by
  obtain ⟨i0, hi0, hz0, hzs, hzb⟩ := info_parts nodeI_info
  have hsrc : Go.Src Tryz.prog i0.size 24 (.slice (some ⟨vb, 0, none⟩) 1 vc) 1 us w := by
    rw [hzs]
    exact Go.Src.ofSlice w nodesI_under ⟨vb, 0, none⟩ 1 vc us hu.1 (fun j u hj => @World.ownsRow.cells w 0 _ 3 _ 1 us hu vb rfl j u hj) h1
  have hv' := hv
  rw [← hzs] at hv'
  have hrun := fun ty => run_append (P := Tryz.prog) (w := w) 24 24 ty 33 i0 _ nodesI_under hi0 hz0 (by rw [hzs]; rfl) (by omega) hv' hsrc (by simp only [maxLen]; omega) (by rw [hzb]; omega)
  obtain ⟨v', w', hr, ho, hbk⟩ := hrun 0
  rw [hzs] at ho
  clear hrun
  rcases hv.2 with ⟨rfl, rfl⟩ | ⟨g, cap, cur, rfl, hg, hb, hnc, hcm, hcs, htk⟩
  · have hr' : ∀ ty, (Builtin.append_ #[24, 24] ty #[.slice none 0 0, .slice (some ⟨vb, 0, none⟩) 1 vc]).run Tryz.prog w = .ok v' w' := fun ty => hr
    clear hr
    go_enter Tryz.func103, Tryz.ntmps103
    go_wp2_with (at_builtin; refine Lib.wpList_append_run _ rfl _ _ _ _ rfl _ _ rfl rfl _ _ (hr' _) ?_)
    all_goals (go_ret; exact ⟨v', rfl, ho, hbk⟩)
  · have hr' : ∀ ty, (Builtin.append_ #[24, 24] ty #[.slice (some ⟨g, 0, none⟩) n cap, .slice (some ⟨vb, 0, none⟩) 1 vc]).run Tryz.prog w = .ok v' w' := fun ty => hr
    clear hr
    go_enter Tryz.func103, Tryz.ntmps103
    go_wp2_with (at_builtin; refine Lib.wpList_append_run _ rfl _ _ _ _ rfl _ _ rfl rfl _ _ (hr' _) ?_)
    all_goals (go_ret; exact ⟨v', rfl, ho, hbk⟩)

set_option maxHeartbeats 4000000 in
set_option maxRecDepth 100000 in
/-- Inside, where there is room: in place. -/
theorem insN_room (w : World) (b n c i : Nat) (C V : Array Value) (xs us : List Value) (vb vc : Nat) (hb : w.heap[b]? = some (.cells C 33 (0, 0))) (hC : C.size = c * 3) (hx : C.toList.take (n * 3) = xs) (hxl : xs.length = n * 3)
    (hvb : w.heap[vb]? = some (.cells V 33 (0, 0))) (hV : V.toList.take (1 * 3) = us) (hul : us.length = 3) (hVs : V.size = vc * 3) (hvc : 1 ≤ vc) (hne : vb ≠ b) (hi : i < n) (hroom : n + 1 ≤ c) (hcm : c ≤ maxLen) (hn : n ≤ 1000000)
    (h1x : ∀ x ∈ xs, x.oneCell' = true) (h1u : ∀ x ∈ us, x.oneCell' = true) :
    Calls Tryz.prog 103 #[.slice (some ⟨b, 0, none⟩) n c, .int .i64 i, .slice (some ⟨vb, 0, none⟩) 1 vc] w fun e w' => e = .returned (.slice (some ⟨b, 0, none⟩) (n + 1) c) ∧
      ∃ C', w' = w.drew.setRow b C' ∧ C'.size = C.size ∧ C'.toList.take ((n + 1) * 3) = xs.take (i * 3) ++ us ++ xs.drop (i * 3) := by
  obtain ⟨i0, hi0, hz0, hzs, hzb⟩ := info_parts nodeI_info
  have hsz : ∀ w, (Go.sizeOf 33).run Tryz.prog w = .ok 3 w := fun w => by simp [sizeOf, typeInfo, hi0, hzs]
  have hsa : w.shape? vb = some (33, V.size) := by simp [World.shape?, hvb]
  have hsb : w.shape? b = some (33, C.size) := by simp [World.shape?, hb]
  have hfa : ∀ o, w.frozen? ⟨vb, o, none⟩ = false := fun o => by simp [World.frozen?, hvb]
  have hov : ∀ o lb cb, (callFunc 123 #[.slice (some ⟨vb, 0, none⟩) 1 vc, .slice (some ⟨b, o, none⟩) lb cb]).run Tryz.prog w = .ok (.value (.bool false)) w := fun o lb cb => by
    rw [run_callFunc_extern Tryz.func123 (by kernel_rfl) (by kernel_rfl) (by kernel_rfl) (e := Extern.SlicesOverlaps.overlaps #[24, 24] #[4]) (by kernel_rfl),
      Lib.run_overlaps_apart w 24 4 33 nodesI_under 3 hsz ⟨vb, 0, none⟩ ⟨b, o, none⟩ 1 vc lb cb hne 33 33 V.size C.size hsa hsb (by omega) (hfa _) (hfa _)]
    rfl
  have hdl : (xs.drop (i * 3)).length = (n - i) * 3 := by rw [List.length_drop, hxl]; omega
  have hCl : C.toList.length = c * 3 := by rw [Array.length_toList, hC]
  obtain ⟨r1, r2, r3⟩ := ins_room C.toList xs us (i * 3) 3 (n * 3) hx hxl (by omega) hul (by omega)
  have e3 : (i + 1) * 3 = i * 3 + 3 := by omega
  obtain ⟨C1, hC1⟩ : ∃ C1 : Array Value, C1 = (C.toList.take (i * 3 + 3) ++ xs.drop (i * 3) ++ C.toList.drop (i * 3 + 3 + (xs.drop (i * 3)).length)).toArray := ⟨_, rfl⟩
  obtain ⟨C2, hC2⟩ : ∃ C2 : Array Value, C2 = (C1.toList.take (i * 3) ++ us ++ C1.toList.drop (i * 3 + us.length)).toArray := ⟨_, rfl⟩
  have hC1s : C1.size = C.size := by rw [hC1, List.size_toArray, r3, Array.length_toList]
  have hcp1 : ∀ ty dc sc, (Builtin.copy_ #[24, 24] ty #[.slice (some ⟨b, (i + 1) * 3, none⟩) (n - i) dc, .slice (some ⟨b, i * 3, none⟩) (n + 1 - i) sc]).run Tryz.prog w.drew = .ok (goInt ((n - i : Nat) : Int)) (w.drew.setRow b C1) := fun ty dc sc => by
    rw [e3, hC1]
    refine run_copy_rowK w.drew _ _ ty _ i0 b (i * 3 + 3) (n - i) dc ⟨b, i * 3, none⟩ (n + 1 - i) sc (n - i) C _ (xs.drop (i * 3)) nodesI_under hi0 hb (by simp only [Nat.min_def]; split <;> omega) (by rw [hzs]; exact hdl) (fun j v hj => ?_) (by rw [hC]; omega) (fun v hv => h1x v (List.mem_of_mem_drop hv))
    rw [Addr.add_lit, cell_of_row w.drew b (i * 3 + j) C _ (0, 0) hb]
    rw [List.getElem?_drop, ← hx, List.getElem?_take] at hj
    split at hj
    · simpa using hj
    · cases hj
  have hcp2 : ∀ W : World, W.heap = (w.drew.setRow b C1).heap → ∀ ty dc, (Builtin.copy_ #[24, 24] ty #[.slice (some ⟨b, i * 3, none⟩) (n + 1 - i) dc, .slice (some ⟨vb, 0, none⟩) 1 vc]).run Tryz.prog W = .ok (goInt 1) (W.setRow b C2) := fun W hW ty dc => by
    rw [hC2]
    refine run_copy_rowK W _ _ ty _ i0 b (i * 3) (n + 1 - i) dc ⟨vb, 0, none⟩ 1 vc 1 C1 33 us nodesI_under hi0 (by rw [hW]; exact setRow_heap w.drew b C C1 _ (0, 0) hb) (by simp only [Nat.min_def]; split <;> omega) (by rw [hzs]; exact hul) (fun j v hj => ?_) (by rw [hC1s, hC]; omega) h1u
    rw [Addr.add_lit, cell_of_row W vb (0 + j) V 33 (0, 0) (by rw [hW, setRow_other w.drew b vb C1 hne]; exact hvb), Nat.zero_add]
    rw [← hV, List.getElem?_take] at hj
    split at hj
    · simpa using hj
    · cases hj
  have mixed : Tryz.prog.follows .mixedOrders = true := by kernel_rfl
  have hb2 : ¬ (c = i + 1) := by omega
  have hb4 : ¬ (c = i) := by omega
  have htn : ((i : Int) + 1).toNat = i + 1 := by omega
  have hin : i ≤ n := by omega
  have hw1 : IntKind.i64.wrap ((i : Int) + 1) = (i : Int) + 1 := by rw [IntKind.wrap_i64]; omega
  have hb1 : (0 : Int) ≤ (i : Int) + 1 := by omega
  have hb3 : (i : Int) ≤ (n : Int) + 1 := by omega
  have hdone : ∃ C', (w.drew.setRow b C1).setRow b C2 = w.drew.setRow b C' ∧ C'.size = C.size ∧ C'.toList.take ((n + 1) * 3) = xs.take (i * 3) ++ us ++ xs.drop (i * 3) := by
    refine ⟨C2, setRow_setRow _ _ _ _, ?_, ?_⟩
    · rw [hC2, hC1]
      simp only [List.size_toArray]
      rw [r2, Array.length_toList]
    · rw [hC2, hC1, show (n + 1) * 3 = n * 3 + 3 by omega]
      exact r1
  clear hC2 hC1 r1 r2 r3 hCl e3
  go_enter Tryz.func103, Tryz.ntmps103
  go_wp2_with (simp only [hov])
  go_region_law (refine step_copyI rfl _ _ 24 24 rfl _ _ (by simp [Act.eval, Act.put]) (by simp [Act.eval, Act.put]) (hcp1 _ _ _) ?_)
  go_wp2_with (at_builtin; refine wpList_copyI _ rfl _ _ 24 24 rfl _ _ rfl rfl (hcp2 _ rfl _ _) ?_)
  go_ret
  exact ⟨rfl, hdone⟩

set_option maxHeartbeats 4000000 in
set_option maxRecDepth 100000 in
/-- Inside, where there is no room: a new row. -/
theorem insN_grow (w : World) (b n c i : Nat) (C V : Array Value) (xs us : List Value) (vb vc : Nat) (hb : w.heap[b]? = some (.cells C 33 (0, 0))) (hC : C.size = c * 3) (hx : C.toList.take (n * 3) = xs) (hxl : xs.length = n * 3)
    (hvb : w.heap[vb]? = some (.cells V 33 (0, 0))) (hV : V.toList.take (1 * 3) = us) (hul : us.length = 3) (hVs : V.size = vc * 3) (hvc : 1 ≤ vc) (hi : i < n) (hnc : n ≤ c) (hroom : c < n + 1) (hn : n ≤ 1000000)
    (h1x : ∀ x ∈ xs, x.oneCell' = true) (h1u : ∀ x ∈ us, x.oneCell' = true) :
    Calls Tryz.prog 103 #[.slice (some ⟨b, 0, none⟩) n c, .int .i64 i, .slice (some ⟨vb, 0, none⟩) 1 vc] w fun e w' => ∃ G C', e = .returned (.slice (some ⟨w.heap.size, 0, none⟩) (n + 1) G) ∧
      n + 1 ≤ G ∧ G ≤ maxLen ∧ C'.size = G * 3 ∧ C'.toList.take ((n + 1) * 3) = xs.take (i * 3) ++ us ++ xs.drop (i * 3) ∧ w'.heap[w.heap.size]? = some (.cells C' 33 (0, 0)) ∧ w.grownBy w' none := by
  obtain ⟨i0, hi0, hz0, hzs, hzb⟩ := info_parts nodeI_info
  have hbw : b < w.heap.size := (Array.getElem?_eq_some_iff.1 hb).1
  have hvw : vb < w.heap.size := (Array.getElem?_eq_some_iff.1 hvb).1
  have hdl : (xs.drop (i * 3)).length = (n - i) * 3 := by rw [List.length_drop, hxl]; omega
  have htl : (xs.take (i * 3)).length = i * 3 := by rw [List.length_take, hxl]; omega
  have hCl : C.toList.length = c * 3 := by rw [Array.length_toList, hC]
  have hxs : ∀ j v, xs[j]? = some v → w.cell? ⟨b, j, none⟩ = some v := fun j v hj => by
    rw [cell_of_row w b j C _ (0, 0) hb]
    rw [← hx, List.getElem?_take] at hj
    split at hj
    · simpa using hj
    · cases hj
  have hold : (Builtin.firstCells i0.size i (.slice (some ⟨b, 0, none⟩) i c)).run Tryz.prog w.drew = .ok (xs.take (i * 3)).toArray w.drew := by
    refine run_firstCells_some w.drew i0.size i ⟨b, 0, none⟩ i c (xs.take (i * 3)) (by rw [hzs, htl]) (fun j v hj => ?_)
    rw [Addr.add_lit, Nat.zero_add]
    rw [List.getElem?_take] at hj
    split at hj
    · exact hxs j v hj
    · cases hj
  have hkk : (n : Int) + 1 - (i : Int) = ((n + 1 - i : Nat) : Int) := by omega
  have hik : i + (n + 1 - i) = n + 1 := by omega
  obtain ⟨Z, hZ⟩ : ∃ Z : Value, Z = .agg #[.string ⟨#[]⟩, .slice none 0 0, .string ⟨#[]⟩] := ⟨_, rfl⟩
  have hZc : Z.cells.size = 3 := by rw [hZ]; rfl
  rw [← hZ] at hz0
  obtain ⟨G, hG⟩ : ∃ G, G = grownCap w (n + 1) c 33 := ⟨_, rfl⟩
  obtain ⟨R, hR⟩ : ∃ R : Array Value, R = (xs.take (i * 3)).toArray ++ Builtin.zeroCells Z.cells (n + 1 - i) ++ Builtin.zeroCells Z.cells (G - (n + 1)) := ⟨_, rfl⟩
  have hrz : ∀ ty, (Builtin.append_ #[24, 3] ty #[.slice (some ⟨b, 0, none⟩) i c, .int .i64 ((n : Int) + 1 - (i : Int))]).run Tryz.prog w = .ok (.slice (some ⟨w.heap.size, 0, none⟩) (n + 1) G) (w.drew.alloc (.cells R 33)) := fun ty => by
    have h := Lib.run_append_grow_zeros (P := Tryz.prog) w 24 3 ty 33 i0 Z .i64 .i64 nodesI_under (by kernel_rfl) hi0 hz0 (some ⟨b, 0, none⟩) i c (xs.take (i * 3)) hold (n + 1 - i) (by omega) (by omega) (by omega) (by omega) (by rw [hzb]; omega) (by rw [hzb, hik]; exact growslice_fits hroom (by omega))
    rw [hik] at h
    rw [hkk, hR, hG]
    exact h
  have hGn : n + 1 ≤ G := by rw [hG]; exact grownCap_ge w _ _ _
  have hG63 : G ≤ maxLen := by
    rw [hG]
    exact grownCap_le_maxLen w (n + 1) c 33 (by simp only [maxLen]; omega)
  have hRs : R.size = G * 3 := by
    rw [hR, Array.size_append, Array.size_append, size_zeroCells, size_zeroCells, hZc, List.size_toArray, htl]
    omega
  have hRt : R.toList.take (i * 3) = xs.take (i * 3) := by
    rw [hR, Array.toList_append, Array.toList_append, List.append_assoc]
    exact List.take_left' (by simpa using htl)
  obtain ⟨r1, r2, r3⟩ := ins_grow R.toList xs us (i * 3) 3 (n * 3) hRt hxl (by omega) hul (by rw [Array.length_toList, hRs]; omega)
  obtain ⟨R1, hR1⟩ : ∃ R1 : Array Value, R1 = (R.toList.take (i * 3) ++ us ++ R.toList.drop (i * 3 + us.length)).toArray := ⟨_, rfl⟩
  obtain ⟨R2, hR2⟩ : ∃ R2 : Array Value, R2 = (R1.toList.take (i * 3 + 3) ++ xs.drop (i * 3) ++ R1.toList.drop (i * 3 + 3 + (xs.drop (i * 3)).length)).toArray := ⟨_, rfl⟩
  have hR1s : R1.size = R.size := by rw [hR1, List.size_toArray, r3, Array.length_toList]
  obtain ⟨W1, hW1⟩ : ∃ W1, W1 = w.drew.alloc (.cells R 33) := ⟨_, rfl⟩
  have hN1 : W1.heap[w.heap.size]? = some (.cells R 33 (0, 0)) := by rw [hW1]; exact heap_alloc_new w.drew _
  have hO1 : ∀ k, k < w.heap.size → W1.heap[k]? = w.heap[k]? := fun k hk => by rw [hW1]; exact Below.heap_alloc w.drew _ k hk
  rw [← hW1] at hrz
  have e3 : (i + 1) * 3 = i * 3 + 3 := by omega
  have hcp1 : ∀ W : World, W.heap = W1.heap → ∀ ty dc, (Builtin.copy_ #[24, 24] ty #[.slice (some ⟨w.heap.size, i * 3, none⟩) (n + 1 - i) dc, .slice (some ⟨vb, 0, none⟩) 1 vc]).run Tryz.prog W = .ok (goInt 1) (W.setRow w.heap.size R1) := fun W hW ty dc => by
    rw [hR1]
    refine run_copy_rowK W _ _ ty _ i0 w.heap.size (i * 3) (n + 1 - i) dc ⟨vb, 0, none⟩ 1 vc 1 R 33 us nodesI_under hi0 (by rw [hW]; exact hN1) (by simp only [Nat.min_def]; split <;> omega) (by rw [hzs]; exact hul) (fun j v hj => ?_) (by rw [hRs]; omega) h1u
    rw [Addr.add_lit, cell_of_row W vb (0 + j) V 33 (0, 0) (by rw [hW, hO1 vb hvw]; exact hvb), Nat.zero_add]
    rw [← hV, List.getElem?_take] at hj
    split at hj
    · simpa using hj
    · cases hj
  have hcp2 : ∀ W : World, W.heap = (W1.setRow w.heap.size R1).heap → ∀ ty dc sc, (Builtin.copy_ #[24, 24] ty #[.slice (some ⟨w.heap.size, (i + 1) * 3, none⟩) (n - i) dc, .slice (some ⟨b, i * 3, none⟩) (n - i) sc]).run Tryz.prog W = .ok (goInt ((n - i : Nat) : Int)) (W.setRow w.heap.size R2) := fun W hW ty dc sc => by
    rw [e3, hR2]
    refine run_copy_rowK W _ _ ty _ i0 w.heap.size (i * 3 + 3) (n - i) dc ⟨b, i * 3, none⟩ (n - i) sc (n - i) R1 33 (xs.drop (i * 3)) nodesI_under hi0 (by rw [hW]; exact setRow_heap W1 _ R R1 _ (0, 0) hN1) (Nat.min_self _) (by rw [hzs]; exact hdl) (fun j v hj => ?_) (by rw [hR1s, hRs]; omega) (fun v hv => h1x v (List.mem_of_mem_drop hv))
    rw [Addr.add_lit, cell_of_row W b (i * 3 + j) C _ (0, 0) (by rw [hW, setRow_other W1 _ b R1 (by omega), hO1 b hbw]; exact hb), ← cell_of_row w b (i * 3 + j) C _ (0, 0) hb]
    rw [List.getElem?_drop] at hj
    exact hxs _ v hj
  have hfin : ∀ W : World, W.heap = ((W1.setRow w.heap.size R1).setRow w.heap.size R2).heap → W.os = w.os → W.tape = w.tape → W.output = w.output → ∃ G' C', Ending.returned (.slice (some ⟨w.heap.size, 0, none⟩) (n + 1) G) = .returned (.slice (some ⟨w.heap.size, 0, none⟩) (n + 1) G') ∧
      n + 1 ≤ G' ∧ G' ≤ maxLen ∧ C'.size = G' * 3 ∧ C'.toList.take ((n + 1) * 3) = xs.take (i * 3) ++ us ++ xs.drop (i * 3) ∧ W.heap[w.heap.size]? = some (.cells C' 33 (0, 0)) ∧ w.grownBy W none := fun W hW h1 h2 h3 => by
    refine ⟨G, R2, rfl, hGn, hG63, ?_, ?_, ?_, h1, h2, h3, ?_, fun k hk _ => ?_⟩
    · rw [hR2, hR1, List.size_toArray, ← hRs]
      simp only []
      rw [r2, Array.length_toList]
    · rw [hR2, hR1, show (n + 1) * 3 = n * 3 + 3 by omega]
      exact r1
    · rw [hW]
      exact setRow_heap _ _ R1 R2 _ (0, 0) (setRow_heap W1 _ R R1 _ (0, 0) hN1)
    · rw [hW, setRow_size, setRow_size, hW1]
      simp
    · rw [hW, setRow_other _ _ k R2 (by omega), setRow_other _ _ k R1 (by omega)]
      exact hO1 k hk
  have mixed : Tryz.prog.follows .mixedOrders = true := by kernel_rfl
  have hb2 : ¬ (G = i + 1) := by omega
  have hb4 : ¬ (G = i) := by omega
  have hb5 : ¬ (c = i) := by omega
  have htn : ((i : Int) + 1).toNat = i + 1 := by omega
  have hin : i ≤ n := by omega
  have hw1 : IntKind.i64.wrap ((i : Int) + 1) = (i : Int) + 1 := by rw [IntKind.wrap_i64]; omega
  have hb1 : (0 : Int) ≤ (i : Int) + 1 := by omega
  have hb3 : (i : Int) ≤ (n : Int) + 1 := by omega
  have hb6 : (i : Int) ≤ (n : Int) := by omega
  subst hW1
  clear hR2 hR1 r1 r2 r3 hCl e3 hR hG hZ hRt hN1 hO1 hold hkk hik
  have hcp1a := hcp1 ((w.alloc (.cells R 33)).drew) rfl
  have hcp2a := hcp2 (((w.alloc (.cells R 33)).drew.setRow w.heap.size R1).drew) rfl
  go_enter Tryz.func103, Tryz.ntmps103
  go_wp2_with (first
    | (at_builtin; refine Lib.wpList_append_run _ rfl _ _ _ _ rfl _ _ rfl rfl _ _ (hrz _) ?_)
    | (at_builtin; refine wpList_copyI _ rfl _ _ 24 24 rfl _ _ rfl rfl (hcp1 _ rfl _ _) ?_))
  go_region_law (refine step_copyI rfl _ _ 24 24 rfl _ _ (by simp [Act.eval, Act.put]) (by simp [Act.eval, Act.put]) (hcp2 _ rfl _ _ _) ?_)
  go_wp2
  go_ret
  exact hfin _ rfl rfl rfl rfl
theorem insN_walk : InsWalk Tryz.prog 103 33 3 := by
  intro w v u n i xs us hv hu h1x h1u hne hi hn
  rcases hu.2 with ⟨_, h0⟩ | ⟨vb, vc, V, rfl, _, hvb, hvc, hvm, hVs, hVt⟩
  · exact absurd h0 (by omega)
  have hxl := hv.1
  have hul := hu.1
  have hlen : (xs.take (i * 3) ++ us ++ xs.drop (i * 3)).length = (n + 1) * 3 := by
    rw [List.length_append, List.length_append, List.length_take, List.length_drop, hxl, hul]
    omega
  by_cases hin : i = n
  · subst hin
    have e1 : xs.take (i * 3) ++ us ++ xs.drop (i * 3) = xs ++ us := by
      rw [List.take_of_length_le (by omega), List.drop_eq_nil_of_le (by omega), List.append_nil]
    rw [e1]
    exact insN_end w v i xs us vb vc hv hu h1u hn
  · rcases hv.2 with ⟨_, h0⟩ | ⟨b, c, C, rfl, _, hb, hnc, hcm, hCs, hCt⟩
    · exact absurd h0 (by omega)
    · by_cases hroom : n + 1 ≤ c
      · refine (insN_room w b n c i C V xs us vb vc hb hCs hCt hxl hvb hVt (by omega) hVs hvc (fun e => hne b rfl (by rw [e]; rfl)) (by omega) hroom hcm hn h1x h1u).mono ?_
        rintro e w' ⟨rfl, C', rfl, hs, ht⟩
        exact ⟨_, rfl, ⟨hlen, .inr ⟨b, c, C', rfl, Nat.zero_le _, setRow_heap w.drew b C C' _ (0, 0) hb, hroom, hcm, by rw [hs, hCs], ht⟩⟩,
          .inl ⟨rfl, rfl, rfl, rfl, by simp, fun k _ hk => setRow_other w.drew b k C' (fun e => hk (by rw [e]; rfl))⟩⟩
      · refine (insN_grow w b n c i C V xs us vb vc hb hCs hCt hxl hvb hVt (by omega) hVs hvc (by omega) hnc (by omega) hn h1x h1u).mono ?_
        rintro e w' ⟨G, C', rfl, h1, h2, h3, h4, h5, h6⟩
        exact ⟨_, rfl, ⟨hlen, .inr ⟨w.heap.size, G, C', rfl, Nat.zero_le _, h5, h1, h2, h3, h4⟩⟩, .inr ⟨rfl, h6⟩⟩
end

section
open Go.RowKit
set_option linter.unusedVariables false

/-! The draw. -/
noncomputable def LO_word2 : LoopT := fun _ ls => match ls with
  | [(.ptr 0 0, some (.box [.pv (.sl n l), .pv (.int .i64 a), .pv (.int .u64 g)])), (.own x, some (.lst 1 e cn cl false)), (.pv (.int .i64 i), none)] =>
    [(srcOk n l a g && decide (0 ≤ i) && decide (i ≤ 1000) && decide (a ≤ 1000000) && Nat.beq e 5 && Nat.beq x 20480 && Nat.beq cn 0 && nilB cl, .exit 0, [aB0 (sx n l (a + i) (seedK l (a.toNat + i.toNat))), aL 5 1 5 i.toNat ((wordV l a.toNat i.toNat).map byteP)])]
  | _ => []
noncomputable def zab : List (FuncId × Entry) := (59, E_one) :: (54, E_pick) :: xab
abbrev lp_putNode : List (Nat × List Nat × List Nat) := [(1000000, [], [17, 30])]
noncomputable def E_InsN : Entry := fun ivs => match ivs with
  | [.cv (.lst 3 e n l true), .cv (.pv (.int .i64 i)), .cv (.lst 3 e' 1 ul mt)] =>
    [(Nat.beq e 33 && Nat.beq e' 33 && decide (0 ≤ i) && decide (i ≤ (n : Int)) && decide (n ≤ 1000000), .cv (.lst 3 33 (n + 1) (l.take (i.toNat * 3) ++ ul ++ l.drop (i.toNat * 3)) true), [])]
  | [.cv (.pv .nils), .cv (.pv (.int .i64 i)), .cv (.lst 3 e' 1 ul mt)] => [(Nat.beq e' 33 && (i == 0), .cv (.lst 3 33 1 ul true), [])]
  | _ => []
noncomputable def ibc0 : List (FuncId × Entry) := (103, E_InsN) :: ibb1
abbrev lp_put : List (Nat × List Nat × List Nat) := [(1000000, [], [14, 24, 40, 49]), (1000001, [512, 514, 520], [])]
noncomputable def q_put (br : Br) (t : List NodeT) (s : ByteArray) (xs : List ByteArray) (v : ByteArray) := evB br Tryz.prog ibc0 lp_put LO0 Tryz.f69 [.box 0 [lN t], cS s, cP (pL xs), cS v]
noncomputable def q_put0 (br : Br) (s : ByteArray) (xs : List ByteArray) (v : ByteArray) := evB br Tryz.prog ibc0 lp_put LO0 Tryz.f69 [.box 0 [.pv .nils], cS s, cP (pL xs), cS v]
def mkN (s : ByteArray) (xs : List ByteArray) (v : ByteArray) : NodeT := ⟨s, xs, v⟩
noncomputable def E_put : Entry := fun ivs => match ivs with
  | [.box 0 [.lst 3 e n l true], .cv (.pv (.str s)), .cv (.pv q), .cv (.pv (.str v))] =>
    [(isNs (.sl n l) && Nat.beq e 33 && isL q && decide (s.size ≤ 1000000) && treeB (asNs (.sl n l)) && !hasAt (asNs (.sl n l)) s (asL q) && decide (n = 120), cI 4, [[lN (asNs (.sl n l))]]),
     (isNs (.sl n l) && Nat.beq e 33 && isL q && decide (s.size ≤ 1000000) && treeB (asNs (.sl n l)), cI 0, [[lN (putT (asNs (.sl n l)) s (asL q) v)]])]
  | [.box 0 [.pv .nils], .cv (.pv (.str s)), .cv (.pv q), .cv (.pv (.str v))] => [(isL q && decide (s.size ≤ 1000000), cI 0, [[lN [mkN s (asL q) v]]])]
  | _ => []
noncomputable def ibc1 : List (FuncId × Entry) := (69, E_put) :: (26, E_copyTree) :: ibc0
abbrev lp_PutNode : List (Nat × List Nat × List Nat) := [(1000000, [], [37])]
end

section
set_option linter.unusedVariables false
set_option maxRecDepth 100000
theorem q_put_eq (t : List NodeT) (s : ByteArray) (xs : List ByteArray) (v : ByteArray) : q_put brC t s xs v =
 brC (isT (PV.agg [PV.sl (List.length t) (encN t)]) && isL (PV.sl (List.length xs) (List.map PV.str xs)) && decide (ByteArray.size s ≤ 1000000) && treeB (asT (PV.agg [PV.sl (List.length t) (encN t)])))
  (brC (hasAt (asT (PV.agg [PV.sl (List.length t) (encN t)])) s (asL (PV.sl (List.length xs) (List.map PV.str xs))))
    (brC (decide (0 ≤ (↑(locIdx (asT (PV.agg [PV.sl (List.length t) (encN t)])) s (asL (PV.sl (List.length xs) (List.map PV.str xs)))) : Int)) && decide ((↑(locIdx (asT (PV.agg [PV.sl (List.length t) (encN t)])) s (asL (PV.sl (List.length xs) (List.map PV.str xs)))) : Int) < (↑(List.length t) : Int)))
      (brC (Nat.beq (List.length [PV.str v]) 1 && Nat.ble (Int.toNat (↑(locIdx (asT (PV.agg [PV.sl (List.length t) (encN t)])) s (asL (PV.sl (List.length xs) (List.map PV.str xs)))) : Int) * 3 + 2 + 1) (List.length (encN t)))
        (some ((IV.cv (CV.pv (PV.int IntKind.i64 (Int.ofNat 0))), [[CV.lst 3 33 (List.length t) (List.take (Int.toNat (↑(locIdx (asT (PV.agg [PV.sl (List.length t) (encN t)])) s (asL (PV.sl (List.length xs) (List.map PV.str xs)))) : Int) * 3 + 2) (encN t) ++ [PV.str v] ++ List.drop (Int.toNat (↑(locIdx (asT (PV.agg [PV.sl (List.length t) (encN t)])) s (asL (PV.sl (List.length xs) (List.map PV.str xs)))) : Int) * 3 + 2 + 1) (encN t)) true]])))
        (none))
      (none))
    (brC ((↑(List.length t) : Int) == 120)
      (some ((IV.cv (CV.pv (PV.int IntKind.i64 (Int.ofNat 4))), [[CV.lst 3 33 (List.length t) (encN t) true]])))
      (brC (isL (PV.sl (List.length xs) (List.map PV.str xs)))
        (brC (Nat.beq 33 33 && Nat.beq 33 33 && decide (0 ≤ (↑(locIdx (asT (PV.agg [PV.sl (List.length t) (encN t)])) s (asL (PV.sl (List.length xs) (List.map PV.str xs)))) : Int)) && decide ((↑(locIdx (asT (PV.agg [PV.sl (List.length t) (encN t)])) s (asL (PV.sl (List.length xs) (List.map PV.str xs)))) : Int) ≤ (↑(List.length t) : Int)) && decide (List.length t ≤ 1000000))
          (some ((IV.cv (CV.pv (PV.int IntKind.i64 (Int.ofNat 0))), [[CV.lst 3 33 (List.length t + 1) (List.take (Int.toNat (↑(locIdx (asT (PV.agg [PV.sl (List.length t) (encN t)])) s (asL (PV.sl (List.length xs) (List.map PV.str xs)))) : Int) * 3) (encN t) ++ [PV.str s, PV.sl (List.length xs) (List.map PV.str xs), PV.str v] ++ List.drop (Int.toNat (↑(locIdx (asT (PV.agg [PV.sl (List.length t) (encN t)])) s (asL (PV.sl (List.length xs) (List.map PV.str xs)))) : Int) * 3) (encN t)) true]])))
          (none))
        (none))))
  (none) := by kernel_rfl
theorem q_put0_eq (s : ByteArray) (xs : List ByteArray) (v : ByteArray) : q_put0 brC s xs v =
 brC (isT (PV.agg [PV.sl 0 []]) && isL (PV.sl (List.length xs) (List.map PV.str xs)) && decide (ByteArray.size s ≤ 1000000) && treeB (asT (PV.agg [PV.sl 0 []])))
  (brC (hasAt (asT (PV.agg [PV.sl 0 []])) s (asL (PV.sl (List.length xs) (List.map PV.str xs))))
    (none)
    (brC (isL (PV.sl (List.length xs) (List.map PV.str xs)))
      (brC (Nat.beq 33 33 && (↑(locIdx (asT (PV.agg [PV.sl 0 []])) s (asL (PV.sl (List.length xs) (List.map PV.str xs)))) : Int) == 0)
        (some ((IV.cv (CV.pv (PV.int IntKind.i64 (Int.ofNat 0))), [[CV.lst 3 33 1 [PV.str s, PV.sl (List.length xs) (List.map PV.str xs), PV.str v] true]])))
        (none))
      (none)))
  (none) := by kernel_rfl
end

section
open Go.RowKit
set_option linter.unusedVariables false
set_option linter.unusedSimpArgs false
set_option maxRecDepth 100000

theorem byteW {n : Nat} {l : List PV} (hw : wfB n l = true) (k : Nat) : PV.int .u8 (IntKind.wrap .u8 (drawK l k)) = byteP (UInt8.ofNat (drawK l k).toNat) := by
  obtain ⟨h1, h2⟩ := drawK_range hw k
  unfold byteP
  congr 1
  rw [Go.IntWalk.u8_in _ ⟨h1, h2⟩]
  have : (UInt8.ofNat (drawK l k).toNat).toNat = (drawK l k).toNat := by
    rw [UInt8.toNat_ofNat']
    omega
  rw [this]
  omega
theorem bytesOf_map : ∀ X : List UInt8, bytesOf (X.map byteP) = some X
  | [] => rfl
  | c :: X => by
    show (bytesOf (X.map byteP)).bind (fun r => some (UInt8.ofNat (Int.toNat (c.toNat : Int)) :: r)) = _
    rw [bytesOf_map X, Int.toNat_natCast]
    simp
theorem wordV_len (l : List PV) : ∀ (c k : Nat), (wordV l k c).length = c
  | 0, _ => rfl
  | c + 1, k => by unfold wordV; rw [List.length_cons, wordV_len l c (k + 1)]
theorem ok_zab : EntriesOk Tryz.prog zab := ⟨ok_one, ok_pick, ok_xab⟩
theorem ok_InsN : EntryOk Tryz.prog 103 E_InsN := ⟨⟨_, Tryz.func103, by kernel_rfl, by kernel_rfl⟩, fun ivs res bxs h => by
  unfold E_InsN at h
  split at h
  · rename_i e n l i e' ul mt
    obtain ⟨hc, he⟩ := pick1 h
    cases he
    simp only [Bool.and_eq_true, decide_eq_true_eq] at hc
    obtain ⟨⟨⟨⟨h1, h2⟩, h3⟩, h4⟩, h5⟩ := hc
    obtain ⟨k, rfl⟩ := Int.eq_ofNat_of_zero_le h3
    rw [Nat.eq_of_beq_eq_true h1, Nat.eq_of_beq_eq_true h2]
    exact contract_insert (by decide) insN_walk (by omega) h5
  · rename_i i e' ul mt
    obtain ⟨hc, he⟩ := pick1 h
    cases he
    simp only [Bool.and_eq_true, beq_iff_eq] at hc
    rw [Nat.eq_of_beq_eq_true hc.1, hc.2]
    exact contract_insert0 (by decide) insN_walk
  · cases h⟩
theorem ok_ibc0 : EntriesOk Tryz.prog ibc0 := ⟨ok_InsN, ok_ibb1⟩
section
variable {t : List NodeT} {s : ByteArray} {xs : List ByteArray} {v : ByteArray}
theorem put_over (h : hasAt t s xs = true) : encN (putT t s xs v) = List.take (locIdx t s xs * 3 + 2) (encN t) ++ [PV.str v] ++ List.drop (locIdx t s xs * 3 + 2 + 1) (encN t) := by
  obtain ⟨hl, e1, e2⟩ := hasAt_inv h
  have et : t = t.take (locIdx t s xs) ++ (t[locIdx t s xs] :: t.drop (locIdx t s xs + 1)) := by rw [← List.drop_eq_getElem_cons hl, List.take_append_drop]
  have ee : encN t = encN (t.take (locIdx t s xs)) ++ (PV.str s :: PV.sl xs.length (xs.map PV.str) :: PV.str t[locIdx t s xs].value :: encN (t.drop (locIdx t s xs + 1))) := by
    conv => lhs; rw [et, encN_app]
    rw [show encN (t[locIdx t s xs] :: t.drop (locIdx t s xs + 1)) = PV.str t[locIdx t s xs].name :: PV.sl t[locIdx t s xs].subs.length (t[locIdx t s xs].subs.map PV.str) :: PV.str t[locIdx t s xs].value :: encN (t.drop (locIdx t s xs + 1)) from rfl, e1, e2]
  have hk : (encN (t.take (locIdx t s xs))).length = locIdx t s xs * 3 := by rw [encN_len, List.length_take, Nat.min_eq_left (Nat.le_of_lt hl)]
  have ep : encN (putT t s xs v) = encN (t.take (locIdx t s xs)) ++ (PV.str s :: PV.sl xs.length (xs.map PV.str) :: PV.str v :: encN (t.drop (locIdx t s xs + 1))) := by
    unfold putT
    rw [if_pos h, encN_app, encN_app, List.append_assoc]
    rfl
  rw [ep, ee]
  generalize encN (t.take (locIdx t s xs)) = A at hk ⊢
  generalize locIdx t s xs * 3 = K at hk ⊢
  subst hk
  rw [List.take_append, List.drop_append, List.take_of_length_le (show A.length ≤ A.length + 2 by omega), List.drop_eq_nil_of_le (show A.length ≤ A.length + 2 + 1 by omega), show A.length + 2 - A.length = 2 by omega, show A.length + 2 + 1 - A.length = 3 by omega]
  simp
theorem put_into (h : hasAt t s xs = false) : encN (putT t s xs v) = List.take (locIdx t s xs * 3) (encN t) ++ [PV.str s, PV.sl xs.length (xs.map PV.str), PV.str v] ++ List.drop (locIdx t s xs * 3) (encN t) := by
  unfold putT
  rw [if_neg (by rw [h]; decide), encN_app, encN_app, encN_take, encN_drop]
  rfl
end
theorem ok_put : EntryOk Tryz.prog 69 E_put := entry_of mix ok_ibc0 (lp := lp_put) (LO := LO0) ⟨Tryz.func69, by kernel_rfl, by kernel_rfl⟩ (by kernel_rfl) fun ivs res bxs h => by
  unfold E_put at h
  split at h
  · rename_i e n l s q v
    have key : ∀ {t : List NodeT} {xs : List ByteArray}, isNs (pNs t) = true → shT t → isL (pL xs) = true → s.size ≤ 1000000 → treeB t = true →
        q_put brC t s xs v = if (!hasAt t s xs && decide (t.length = 120)) = true then some (cI 4, [[lN t]]) else some (cI 0, [[lN (putT t s xs v)]]) := by
      intro t xs i1 ht i2 hsz hB
      have tree := q_put_eq t s xs v
      have e1 := isT_mk ht
      have e4 : asL (pL xs) = xs := asL_mk xs
      have hl := ht.1
      have hle : locIdx t s xs ≤ t.length := tw_le _ _
      simp only [isT, isL, e1, i2, asT_mk, asL_mk, dT hsz, hB, Bool.and_true, Bool.true_and] at tree
      cases hh : hasAt t s xs with
      | true =>
        have hlt := hasAt_lt hh
        have hel := encN_len t
        rw [hh] at tree
        have b1 : Nat.ble (locIdx t s xs * 3 + 2 + 1) (encN t).length = true := Nat.ble_eq_true_of_le (by omega)
        simp (disch := omega) only [dT, Int.toNat_natCast, b1, Bool.and_true, Bool.true_and] at tree
        refine tree.trans ?_
        rw [Bool.not_true, Bool.false_and, if_neg Bool.false_ne_true]
        have hsz' := @putT_size t s xs v
        rw [if_pos hh] at hsz'
        show some _ = some (cI 0, [[CV.lst 3 33 (putT t s xs v).length (encN (putT t s xs v)) true]])
        rw [put_over hh, hsz']
        rfl
      | false =>
        rw [hh] at tree
        by_cases hn : t.length = 120
        · rw [show ((t.length : Int) == 120) = true by rw [hn]; rfl] at tree
          rw [dT hn]
          exact tree.trans rfl
        · rw [show ((t.length : Int) == 120) = false by simp; omega] at tree
          simp (disch := omega) only [dT, Int.toNat_natCast, Bool.and_true, Bool.true_and, Nat.beq_refl] at tree
          rw [dF hn]
          refine tree.trans ?_
          rw [Bool.and_false, if_neg Bool.false_ne_true]
          have hsz' := @putT_size t s xs v
          rw [if_neg (by rw [hh]; decide)] at hsz'
          show some _ = some (cI 0, [[CV.lst 3 33 (putT t s xs v).length (encN (putT t s xs v)) true]])
          rw [put_into hh, hsz']
          rfl
    rcases pick2 h with ⟨hc, he⟩ | ⟨hc0, hc, he⟩
    · cases he
      simp only [Bool.and_eq_true, decide_eq_true_eq] at hc
      obtain ⟨⟨⟨⟨⟨⟨g1, g2⟩, g3⟩, g4⟩, g5⟩, g6⟩, g7⟩ := hc
      obtain ⟨t, ht', ht⟩ := isE_inv g1
      obtain ⟨xs, rfl, hx⟩ := isL_inv g3
      rw [ht'] at g1 g5 g6 ⊢
      injection ht' with hn hl
      subst hn
      subst hl
      have e6 : asNs (pNs t) = t := asNs_mk t
      have e4 : asL (pL xs) = xs := asL_mk xs
      rw [e6] at g5 g6 ⊢
      rw [e4] at g6
      rw [Nat.eq_of_beq_eq_true g2]
      refine ⟨noLoop (by kernel_rfl), (key g1 ht g3 g4 g5).trans ?_⟩
      rw [g6, dT g7]
      rfl
    · cases he
      simp only [Bool.and_eq_true, decide_eq_true_eq] at hc
      obtain ⟨⟨⟨⟨g1, g2⟩, g3⟩, g4⟩, g5⟩ := hc
      obtain ⟨t, ht', ht⟩ := isE_inv g1
      obtain ⟨xs, rfl, hx⟩ := isL_inv g3
      rw [g1, g2, g3, g5, dT g4] at hc0
      rw [ht'] at g1 g5 hc0 ⊢
      injection ht' with hn hl
      subst hn
      subst hl
      have e6 : asNs (pNs t) = t := asNs_mk t
      have e4 : asL (pL xs) = xs := asL_mk xs
      rw [e6] at g5 hc0 ⊢
      rw [e4] at hc0 ⊢
      rw [Nat.eq_of_beq_eq_true g2]
      refine ⟨noLoop (by kernel_rfl), (key g1 ht g3 g4 g5).trans ?_⟩
      rw [if_neg (by simpa using hc0)]
  · rename_i s q v
    obtain ⟨hc, he⟩ := pick1 h
    cases he
    rw [Bool.and_eq_true, decide_eq_true_eq] at hc
    obtain ⟨xs, rfl, hx⟩ := isL_inv hc.1
    have e4 : asL (pL xs) = xs := asL_mk xs
    rw [e4]
    refine ⟨noLoop (by kernel_rfl), (q_put0_eq s xs v).trans ?_⟩
    have i1 : isT (PV.agg [PV.sl 0 []]) = true := isT_mk shT_nil
    have i2 : asT (PV.agg [PV.sl 0 []]) = [] := asT_mk []
    have i3 : isL (pL xs) = true := isL_mk hx
    simp only [isL, i1, i2, isL_mk hx, asL_mk, dT hc.2, Bool.and_true, Bool.true_and]
    rfl
  · cases h
theorem ok_ibc1 : EntriesOk Tryz.prog ibc1 := ⟨ok_put, ok_copyTree, ok_ibc0⟩
noncomputable def putW (t : List NodeT) (s : ByteArray) (xs : List ByteArray) (v : ByteArray) : List NodeT × Int :=
  if (treeB t && placeB s xs && decide (v.size ≤ 64)) = true then (if (!hasAt t s xs && decide (t.length = 120)) = true then ([], 4) else (putT t s xs v, 0)) else ([], 1)
noncomputable def E_PutNode : Entry := fun ivs => match ivs with
  | [.cv (.pv p), .cv (.pv (.str s)), .cv (.pv q), .cv (.pv (.str v))] => [(isT p && decide (s.size ≤ 1000000) && isL q, .tup [.agg [.pv (pNs (putW (asT p) s (asL q) v).1)], cI (putW (asT p) s (asL q) v).2], [])]
  | _ => []
end

section
open Go.RowKit
set_option linter.unusedVariables false
set_option linter.unusedSimpArgs false

/-- Where a node goes. -/
abbrev toX (ss fs : List ByteArray) (x : NodeT) : List ByteArray := ss ++ x.subs.drop fs.length
noncomputable def mergeL (s : ByteArray) (ss : List ByteArray) (f : ByteArray) (fs : List ByteArray) : List NodeT → List NodeT → List NodeT × Int
  | [], t => (t, 0)
  | x :: r, t => if inX x f fs = true then
      (if subsB (toX ss fs x) = true then
        (if (!hasAt t s (toX ss fs x) && decide (t.length = 120)) = true then (t, 4) else mergeL s ss f fs r (putT t s (toX ss fs x) x.value)) else (t, 1)) else mergeL s ss f fs r t
theorem hasAt_iff {t : List NodeT} (hB : treeB t = true) {s : ByteArray} {p : List ByteArray} : hasAt t s p = true ↔ ∃ z ∈ t, z.name = s ∧ z.subs = p := by
  constructor
  · intro h
    obtain ⟨hl, e1, e2⟩ := hasAt_inv h
    exact ⟨_, List.getElem_mem hl, e1, e2⟩
  · rintro ⟨z, hz, rfl, rfl⟩
    obtain ⟨k, hk, rfl⟩ := List.mem_iff_getElem.1 hz
    exact hasAt_mem hB hk
theorem mem_putT {t : List NodeT} {s : ByteArray} {p : List ByteArray} {v : ByteArray} {z : NodeT} (h : z ∈ putT t s p v) : z = ⟨s, p, v⟩ ∨ z ∈ t := by
  unfold putT at h
  rcases List.mem_append.1 h with h | h
  · rcases List.mem_append.1 h with h | h
    · exact .inr (List.mem_of_mem_take h)
    · exact .inl (List.mem_singleton.1 h)
  · exact .inr (List.mem_of_mem_drop h)
theorem hasAt_putT {t : List NodeT} {s : ByteArray} {p q : List ByteArray} {v : ByteArray} (hB : treeB t = true) (hB1 : treeB (putT t s p v) = true) (hne : p ≠ q) : hasAt (putT t s p v) s q = hasAt t s q := by
  rw [Bool.eq_iff_iff, hasAt_iff hB1, hasAt_iff hB]
  constructor
  · rintro ⟨z, hz, e1, e2⟩
    rcases mem_putT hz with rfl | hz
    · exact absurd e2 hne
    · exact ⟨z, hz, e1, e2⟩
  · rintro ⟨z, hz, e1, e2⟩
    rcases putT_kept hz (s := s) (xs := p) (v := v) with ⟨n1, n2⟩ | h
    · exact absurd (n2.symm.trans e2) hne
    · exact ⟨z, h, e1, e2⟩
/-- How many new places there are. -/
noncomputable def newN (s : ByteArray) (ss : List ByteArray) (f : ByteArray) (fs : List ByteArray) (t : List NodeT) (r : List NodeT) : Nat := (r.filter fun x => inX x f fs && !hasAt t s (toX ss fs x)).length
structure Merged (s : ByteArray) (ss : List ByteArray) (f : ByteArray) (fs : List ByteArray) (r t u : List NodeT) : Prop where
  tree : treeB u = true
  kept : ∀ z ∈ t, (∃ x ∈ r, inX x f fs = true ∧ z.name = s ∧ z.subs = toX ss fs x) ∨ z ∈ u
  there : ∀ x ∈ r, inX x f fs = true → (⟨s, toX ss fs x, x.value⟩ : NodeT) ∈ u
  place : ∀ z ∈ t, ∃ y ∈ u, y.name = z.name ∧ y.subs = z.subs
  count : u.length = t.length + newN s ss f fs t r
  fits : ∀ x ∈ r, inX x f fs = true → subsB (toX ss fs x) = true
theorem merged {s : ByteArray} {ss : List ByteArray} {f : ByteArray} {fs : List ByteArray} (hN : nameB s = true) : ∀ (r t u : List NodeT), treeB t = true → (∀ x ∈ r, nodeB x = true) → r.Pairwise (fun x y => inX x f fs = true → inX y f fs = true → toX ss fs x ≠ toX ss fs y) →
    mergeL s ss f fs r t = (u, 0) → Merged s ss f fs r t u
  | [], t, u, hB, _, _, h => by
    unfold mergeL at h
    injection h with h _
    subst h
    exact ⟨hB, fun z hz => .inr hz, fun x hx => (by cases hx), fun z hz => ⟨z, hz, rfl, rfl⟩, rfl, fun x hx => (by cases hx)⟩
  | x :: r, t, u, hB, hn, hp, h => by
    obtain ⟨hp1, hp2⟩ := List.pairwise_cons.1 hp
    have hn' : ∀ y ∈ r, nodeB y = true := fun y hy => hn y (List.mem_cons_of_mem _ hy)
    unfold mergeL at h
    cases hin : inX x f fs with
    | false =>
      rw [hin, if_neg Bool.false_ne_true] at h
      have ih := merged hN r t u hB hn' hp2 h
      refine ⟨ih.tree, fun z hz => ?_, fun y hy hy' => ?_, ih.place, ?_, fun y hy hy' => ?_⟩
      · rcases ih.kept z hz with ⟨y, hy, k⟩ | k
        · exact .inl ⟨y, List.mem_cons_of_mem _ hy, k⟩
        · exact .inr k
      · rcases List.mem_cons.1 hy with rfl | hy
        · rw [hin] at hy'; cases hy'
        · exact ih.there y hy hy'
      · rw [ih.count]
        unfold newN
        rw [List.filter_cons, hin]
        rfl
      · rcases List.mem_cons.1 hy with rfl | hy
        · rw [hin] at hy'; cases hy'
        · exact ih.fits y hy hy'
    | true =>
      rw [hin, if_pos rfl] at h
      by_cases hs : subsB (toX ss fs x) = true
      · rw [if_pos hs] at h
        by_cases hc : (!hasAt t s (toX ss fs x) && decide (t.length = 120)) = true
        · rw [if_pos hc] at h
          injection h with _ h
          cases h
        · rw [if_neg hc] at h
          have hP : placeB s (toX ss fs x) = true := by unfold placeB; rw [hN, hs]; rfl
          have hv : x.value.size ≤ 64 := by
            have := hn x (by simp)
            unfold nodeB at this
            rw [Bool.and_eq_true, decide_eq_true_eq] at this
            exact this.2
          have hr : hasAt t s (toX ss fs x) = true ∨ t.length < 120 := by
            have := (treeB_ok hB).1
            cases hh : hasAt t s (toX ss fs x) with
            | true => exact .inl rfl
            | false =>
              right
              rw [hh, Bool.not_false, Bool.true_and, decide_eq_true_eq] at hc
              omega
          have hB1 := putT_B hB hP hv hr
          have ih := merged hN r _ u hB1 hn' hp2 h
          have hne : ∀ y ∈ r, inX y f fs = true → toX ss fs x ≠ toX ss fs y := fun y hy hy' => hp1 y hy hin hy'
          refine ⟨ih.tree, fun z hz => ?_, fun y hy hy' => ?_, fun z hz => ?_, ?_, fun y hy hy' => ?_⟩
          · rcases putT_kept hz (s := s) (xs := toX ss fs x) (v := x.value) with ⟨n1, n2⟩ | hz'
            · exact .inl ⟨x, by simp, hin, n1, n2⟩
            · rcases ih.kept z hz' with ⟨y, hy, k⟩ | k
              · exact .inl ⟨y, List.mem_cons_of_mem _ hy, k⟩
              · exact .inr k
          · rcases List.mem_cons.1 hy with rfl | hy
            · rcases ih.kept _ putT_own with ⟨z, hz, k1, _, k3⟩ | k
              · exact absurd k3 (hne z hz k1)
              · exact k
            · exact ih.there y hy hy'
          · rcases putT_kept hz (s := s) (xs := toX ss fs x) (v := x.value) with ⟨n1, n2⟩ | hz'
            · obtain ⟨y, hy, k1, k2⟩ := ih.place _ putT_own
              exact ⟨y, hy, k1.trans n1.symm, k2.trans n2.symm⟩
            · exact ih.place z hz'
          · have e : newN s ss f fs (putT t s (toX ss fs x) x.value) r = newN s ss f fs t r := by
              unfold newN
              congr 1
              apply List.filter_congr
              intro y hy
              cases hy' : inX y f fs with
              | false => rfl
              | true => rw [hasAt_putT hB hB1 (hne y hy hy')]
            rw [ih.count, e, putT_size]
            unfold newN
            rw [List.filter_cons, hin]
            cases hh : hasAt t s (toX ss fs x) with
            | true => simp
            | false => simp; omega
          · rcases List.mem_cons.1 hy with rfl | hy
            · exact hs
            · exact ih.fits y hy hy'
      · rw [if_neg hs] at h
        injection h with _ h
        cases h
theorem inX_split {x : NodeT} {f : ByteArray} {fs : List ByteArray} (h : inX x f fs = true) : x.name = f ∧ x.subs = fs ++ x.subs.drop fs.length := by
  unfold inX begX at h
  rw [Bool.and_eq_true, Bool.and_eq_true] at h
  refine ⟨sEq_iff.1 h.1, ?_⟩
  have := holds_inv h.2.2
  conv => lhs; rw [← List.take_append_drop fs.length x.subs, this]
theorem to_apart {t : List NodeT} (hB : treeB t = true) (ss : List ByteArray) (f : ByteArray) (fs : List ByteArray) : t.Pairwise (fun x y => inX x f fs = true → inX y f fs = true → toX ss fs x ≠ toX ss fs y) := by
  refine (treeB_ok hB).2.2.imp ?_
  intro x y hlt hx hy he
  obtain ⟨a1, a2⟩ := inX_split hx
  obtain ⟨b1, b2⟩ := inX_split hy
  have hd := List.append_cancel_left he
  rw [hd] at a2
  have e1 : x.name = y.name := a1.trans b1.symm
  have e2 : x.subs = y.subs := a2.trans b2.symm
  unfold nodeLt at hlt
  rw [e1, e2, locLt_irrefl] at hlt
  cases hlt
end
end Go.Proofs.YtbknfkdjhajimaaGreatDoor
