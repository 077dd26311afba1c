import Derived.Test.YtlenmjklpiccdaaGreatDoorZZf
import Derived.Lib.IndexMore
import Derived.Test.YtlenmjklpiccdaaGreatDoorZZe
import Derived.Deep.DeepCutAuto
import Derived.Deep.CutBlock
import Derived.Deep.RegionWith
import Derived.Laws.IdiomStrings
namespace Go.Proofs.YtlenmjklpiccdaaGreatDoor
section
open Go.RowKit
set_option linter.unusedVariables false
set_option linter.unusedSimpArgs false
theorem encL_app : ∀ (xs ys : List ByteArray), encL (xs ++ ys) = encL xs ++ encL ys
  | [], ys => rfl
  | x :: xs, ys => by
    show encS x.data.toList ++ encL (xs ++ ys) = (encS x.data.toList ++ encL xs) ++ encL ys
    rw [encL_app xs ys, List.append_assoc]
def big1 (N : List UInt8) : Prop := ∀ c ∈ N, 1 < c.toNat
theorem one_ne {c : UInt8} (h : 1 < c.toNat) : c ≠ 1 := fun e => by rw [e] at h; exact absurd h (by decide)
theorem nameB_big {s : ByteArray} (h : nameB s = true) : big1 s.data.toList := by
  intro c hc
  obtain ⟨i, hi, rfl⟩ := List.mem_iff_getElem.1 hc
  have hi' : i < s.size := by exact hi
  unfold nameB at h
  rw [Bool.and_eq_true] at h
  have := List.all_eq_true.1 h.2 i (List.mem_range.2 hi')
  unfold nameAt at this
  rw [get_at s i hi'] at this
  have e : s[i] = s.data.toList[i] := rfl
  rw [e] at this
  unfold letterB digitB at this
  by_cases h0 : i = 0
  · rw [if_pos h0] at this
    simp only [Bool.or_eq_true, Bool.and_eq_true, decide_eq_true_eq] at this
    omega
  · rw [if_neg h0] at this
    simp only [Bool.or_eq_true, Bool.and_eq_true, decide_eq_true_eq] at this
    omega
def keyL (s : ByteArray) (xs : List ByteArray) : List UInt8 := s.data.toList ++ 1 :: encL xs
theorem occ_one (l : List UInt8) (j : Nat) : Lib.occAt l [1] j = ((l.drop j).head? == some 1) := by
  unfold Lib.occAt
  cases l.drop j with
  | nil => rfl
  | cons a t =>
    by_cases e : a = 1
    · subst e
      rfl
    · have e1 : ((1 : UInt8) == a) = false := by rw [beq_eq_false_iff_ne]; exact Ne.symm e
      have e2 : (some a == some (1 : UInt8)) = false := by rw [beq_eq_false_iff_ne]; exact fun h => e (by injection h)
      show (((1 : UInt8) == a) && _) = (some a == some (1 : UInt8))
      rw [e1, e2]
      rfl
theorem cut_key {N x : List UInt8} (hN : big1 N) : Lib.cut (N ++ 1 :: x) [1] = (N, x, true) := by
  have hi : Lib.index (N ++ 1 :: x) [1] = (N.length : Int) := by
    refine Lib.index_first (by rw [List.length_append]; omega) ?_ ?_
    · rw [occ_one, List.drop_left]
      rfl
    · intro j hj
      rw [occ_one, List.drop_append_of_le_length (by omega), List.drop_eq_getElem_cons hj]
      have := one_ne (hN N[j] (List.getElem_mem hj))
      show (some N[j] == some (1 : UInt8)) = false
      rw [beq_eq_false_iff_ne]
      exact fun h => this (by injection h)
  unfold Lib.cut
  rw [hi, if_pos (by omega), Int.toNat_natCast, List.take_left, List.length_singleton]
  congr 2
  rw [show N ++ 1 :: x = (N ++ [1]) ++ x by simp, show N.length + 1 = (N ++ [1]).length by simp, List.drop_left]
end
section
open Go.RowKit Go.Shelf
set_option linter.unusedVariables false
theorem byteLt_eq : ∀ x y : List UInt8, Op.bytesLess x y = byteLt x y
  | _, [] => by unfold byteLt Op.bytesLess; rfl
  | [], _ :: _ => rfl
  | a :: x, b :: y => by
    show (decide (a < b) || (a == b && Op.bytesLess x y)) = (if a = b then byteLt x y else decide (a.toNat < b.toNat))
    by_cases h : a = b
    · subst h
      rw [if_pos rfl, byteLt_eq x y]
      have : decide (a < a) = false := decide_eq_false (by rw [UInt8.lt_iff_toNat_lt]; omega)
      rw [this]; simp
    · rw [if_neg h, beq_eq_false_iff_ne.2 h, Bool.false_and, Bool.or_false]
      exact decide_eq_decide.2 UInt8.lt_iff_toNat_lt
theorem less_eq (a b : ByteArray) : Op.bytesLess a.toList b.toList = byteLt a.data.toList b.data.toList := by
  rw [byteLt_eq, ByteArray.toList_eq, ByteArray.toList_eq]
def cmpV (lt gt : Bool) : Int := if lt = true then -1 else if gt = true then 1 else 0
def collV (a b : List UInt8) : Int :=
  if canonB a = true then (if canonB b = true then cmpV (decide (numOf a < numOf b)) (decide (numOf b < numOf a)) else -1) else (if canonB b = true then 1 else cmpV (byteLt a b) (byteLt b a))
theorem collV_neg (a b : List UInt8) : decide (collV a b < 0) = beforeB a b := by
  have hc : ∀ x y : Bool, decide (cmpV x y < 0) = x := by decide
  unfold collV beforeB
  by_cases h1 : canonB a = true <;> by_cases h2 : canonB b = true
  · rw [if_pos h1, if_pos h2, if_pos h1, if_pos h2]; exact hc _ _
  · rw [if_pos h1, if_neg h2, if_pos h1, if_neg h2]; rfl
  · rw [if_neg h1, if_pos h2, if_neg h1, if_pos h2]; rfl
  · rw [if_neg h1, if_neg h2, if_neg h1, if_neg h2]; exact hc _ _
theorem cmpInt_any (a b : Int) (w : World) : Calls Tryz.prog 114 #[.int .i64 a, .int .i64 b] w fun e w' => e = .returned (.int .i64 (cmpV (decide (a < b)) (decide (b < a)))) ∧ w = w' := by
  generalize hg : cmpV (decide (a < b)) (decide (b < a)) = c
  have HG := Lib.hid hg; clear hg
  by_cases h1 : a < b
  · have HV := Lib.hid (show c = -1 by rw [← HG.out, decide_eq_true h1]; rfl)
    go_enter Tryz.func114, Tryz.ntmps114
    go_wp2
    go_ret
    exact ⟨by rw [HV.out]; rfl, rfl⟩
  · by_cases h2 : b < a
    · have HV := Lib.hid (show c = 1 by rw [← HG.out, decide_eq_false h1, decide_eq_true h2]; rfl)
      go_enter Tryz.func114, Tryz.ntmps114
      go_wp2
      go_ret
      exact ⟨by rw [HV.out]; rfl, rfl⟩
    · have HV := Lib.hid (show c = 0 by rw [← HG.out, decide_eq_false h1, decide_eq_false h2]; rfl)
      go_enter Tryz.func114, Tryz.ntmps114
      go_wp2
      go_ret
      exact ⟨by rw [HV.out]; rfl, rfl⟩
theorem cmpStr_any (a b : ByteArray) (w : World) : Calls Tryz.prog 74 #[.string a, .string b] w fun e w' => e = .returned (.int .i64 (cmpV (byteLt a.data.toList b.data.toList) (byteLt b.data.toList a.data.toList))) ∧ w = w' := by
  have q0 : ∀ x : ByteArray, (x.toList == x.toList) = true := fun x => beq_self_eq_true _
  by_cases h1 : byteLt a.data.toList b.data.toList = true
  · have HV := Lib.hid (show cmpV (byteLt a.data.toList b.data.toList) (byteLt b.data.toList a.data.toList) = -1 by rw [h1]; rfl)
    have q1 : Op.bytesLess a.toList b.toList = true := by rw [less_eq]; exact h1
    clear h1
    go_enter Tryz.func74, Tryz.ntmps74
    go_wp2
    go_ret
    exact ⟨by rw [HV.out]; rfl, rfl⟩
  · have h1 : byteLt a.data.toList b.data.toList = false := by simpa using h1
    have q1 : Op.bytesLess a.toList b.toList = false := by rw [less_eq]; exact h1
    by_cases h2 : a = b
    · subst h2
      have HV := Lib.hid (show cmpV (byteLt a.data.toList a.data.toList) (byteLt a.data.toList a.data.toList) = 0 by rw [h1]; rfl)
      clear h1
      go_enter Tryz.func74, Tryz.ntmps74
      go_wp2
      go_ret
      exact ⟨by rw [HV.out]; rfl, rfl⟩
    · have HV := Lib.hid (show cmpV (byteLt a.data.toList b.data.toList) (byteLt b.data.toList a.data.toList) = 1 by
        have h3 := byteLt_total (a := a.data.toList) (b := b.data.toList) (fun e => h2 (ba_ext e))
        rw [h1, Bool.false_or] at h3
        rw [h1, h3]; rfl)
      have q2 : (a.toList == b.toList) = false := by rw [toList_beq']; exact decide_eq_false h2
      clear h1 h2
      go_enter Tryz.func74, Tryz.ntmps74
      go_wp2
      go_ret
      exact ⟨by rw [HV.out]; rfl, rfl⟩
def IntPostB (n : Int) (w : World) (e : Ending) (w' : World) : Prop := e = .returned (.int .i64 n) ∧ Below w.heap.size w w'
set_option maxHeartbeats 1000000 in
theorem collate_any (a b : ByteArray) (w : World) (ha : a.size ≤ 9223372036854775000) (hb : b.size ≤ 9223372036854775000) (ht : Tab w) : Calls Tryz.prog 97 #[.string a, .string b] w (IntPostB (collV a.data.toList b.data.toList) w) := by
  go_enter Tryz.func97, Tryz.ntmps97
  go_wp2_with fail
  refine (IsCanon_any a w ha ht).mono ?_
  rintro e w1 ⟨rfl, hb1⟩
  have ht1 := Tab.below ht hb1
  go_wp2_with fail
  refine (IsCanon_any b w1 hb ht1).mono ?_
  rintro e w2 ⟨rfl, hb2⟩
  have ht2 := Tab.below ht1 hb2
  have hw2 : Below w.heap.size w w2 := hb1.trans (hb2.mono (by have := hb1.size; omega))
  cases hA : canonB a.data.toList <;> cases hB : canonB b.data.toList
  · have HV := Lib.hid (show collV a.data.toList b.data.toList = cmpV (byteLt a.data.toList b.data.toList) (byteLt b.data.toList a.data.toList) by unfold collV; rw [hA, hB]; rfl)
    clear hA hB
    go_wp2_with fail
    refine (cmpStr_any a b w2).mono ?_
    rintro e w3 ⟨rfl, rfl⟩
    go_wp2_with fail
    go_ret
    exact ⟨by rw [HV.out]; rfl, hw2⟩
  · have HV := Lib.hid (show collV a.data.toList b.data.toList = 1 by unfold collV; rw [hA, hB]; rfl)
    clear hA hB
    go_wp2_with fail
    go_ret
    exact ⟨by rw [HV.out]; rfl, hw2⟩
  · have HV := Lib.hid (show collV a.data.toList b.data.toList = -1 by unfold collV; rw [hA, hB]; rfl)
    clear hA hB
    go_wp2_with fail
    go_ret
    exact ⟨by rw [HV.out]; rfl, hw2⟩
  · have HV := Lib.hid (show collV a.data.toList b.data.toList = cmpV (decide (numOf a.data.toList < numOf b.data.toList)) (decide (numOf b.data.toList < numOf a.data.toList)) by unfold collV; rw [hA, hB]; rfl)
    clear hA hB
    go_wp2_with fail
    refine (NumOf_any a w2 ha).mono ?_
    rintro e w3 ⟨x, hx, rfl, hb3⟩
    have HX := Lib.hid hx; clear hx
    go_wp2_with fail
    refine (NumOf_any b w3 hb).mono ?_
    rintro e w4 ⟨y, hy, rfl, hb4⟩
    have HY := Lib.hid hy; clear hy
    go_wp2_with fail
    refine (cmpInt_any x y w4).mono ?_
    rintro e w5 ⟨rfl, rfl⟩
    go_wp2_with fail
    go_ret
    refine ⟨by rw [HV.out, ← HX.out, ← HY.out]; rfl, ?_⟩
    have hw3 := hw2.trans (hb3.mono (by have := hw2.size; omega))
    exact hw3.trans (hb4.mono (by have := hw3.size; omega))
end
section
open Go.RowKit
set_option linter.unusedVariables false
noncomputable def eqP (p q : PV) : Bool := holds (p = q)
theorem eqP_mk (p : PV) : eqP p p = true := holds_mk rfl
theorem eqP_inv {p q : PV} (h : eqP p q = true) : p = q := holds_inv h
def E_INameOk : Entry := fun ivs => match ivs with | [.cv (.pv (.str s))] => [(decide (s.size ≤ 1000000), cB (nameB s), [])] | _ => []
def E_ISubOk : Entry := fun ivs => match ivs with | [.cv (.pv (.str s))] => [(true, cB (subB s), [])] | _ => []
def E_SubsOk1 : Entry := fun ivs => match ivs with | [.cv (.pv (.str s))] => [(true, cB (!subB s), [])] | _ => []
def cmpS (a b : ByteArray) : Int := cmpV (strLt a b) (strLt b a)
def E_cmpStr : Entry := fun ivs => match ivs with | [.cv (.pv (.str a)), .cv (.pv (.str b))] => [(true, cI (cmpS a b), [])] | _ => []
abbrev coll (a b : ByteArray) : Int := collV a.data.toList b.data.toList
def E_collate : Entry := fun ivs => match ivs with | [.cv (.pv (.str a)), .cv (.pv (.str b))] => [(decide (a.size ≤ 1000000) && decide (b.size ≤ 1000000), cI (coll a b), [])] | _ => []
noncomputable def q_ISubOk (br : Br) (s : ByteArray) := evB br Tryz.prog [] [] LO0 Tryz.f69 [cS s]
def iab0 : List (FuncId × Entry) := [(30, E_INameOk), (69, E_ISubOk), (74, E_cmpStr), (97, E_collate)]
noncomputable def q_SubsOk1 (br : Br) (s : ByteArray) := evB br Tryz.prog iab0 [] LO0 Tryz.f68 [cS s]
def iab1 : List (FuncId × Entry) := (68, E_SubsOk1) :: iab0
abbrev lp_IdxS : List (Nat × List Nat × List Nat) := [(2, [0, 1, 7, 8], [4])]
def badIdx (xs : List ByteArray) : Nat := (xs.takeWhile subB).length
noncomputable def LO_IdxS : LoopT := fun _ ls => match ls with
  | [(.pv p, none), (.pv (.clo f []), none), (.pv (.int .i64 n), none), (.pv (.int .i64 i), none)] =>
    [(isL p && Nat.beq f 68 && (n == ((asL p).length : Int)) && (i == 0) && decide (badIdx (asL p) < (asL p).length), .ret, [aI (badIdx (asL p))]), (isL p && Nat.beq f 68 && (n == ((asL p).length : Int)) && (i == 0), .exit 0, [aX])]
  | _ => []
noncomputable def r_IdxS (br : Br) (xs : List ByteArray) (i : Int) := rdB br Tryz.prog iab1 lp_IdxS LO_IdxS Tryz.f90 2 [] [aP (pL xs), aP (.clo 68 []), aI xs.length, aI i]
noncomputable def q_IdxS (br : Br) (xs : List ByteArray) := evB br Tryz.prog iab1 lp_IdxS LO_IdxS Tryz.f90 [cP (pL xs), cP (.clo 68 [])]
noncomputable def E_IdxS : Entry := fun ivs => match ivs with | [.cv (.pv p), .cv (.pv (.clo f []))] => [(isL p && Nat.beq f 68, cI (if badIdx (asL p) < (asL p).length then badIdx (asL p) else -1), [])] | _ => []
noncomputable def iab2 : List (FuncId × Entry) := (90, E_IdxS) :: iab1
noncomputable def q_ConS (br : Br) (xs : List ByteArray) := evB br Tryz.prog iab2 [] LO0 Tryz.f67 [cP (pL xs), cP (.clo 68 [])]
noncomputable def E_ConS : Entry := fun ivs => match ivs with | [.cv (.pv p), .cv (.pv (.clo f []))] => [(isL p && Nat.beq f 68, cB (!(asL p).all subB), [])] | _ => []
noncomputable def iab3 : List (FuncId × Entry) := (67, E_ConS) :: iab2
noncomputable def q_ISubsOk (br : Br) (xs : List ByteArray) := evB br Tryz.prog iab3 [] LO0 Tryz.f48 [cP (pL xs)]
noncomputable def E_ISubsOk : Entry := fun ivs => match ivs with | [.cv (.pv p)] => [(isL p, cB (subsB (asL p)), [])] | _ => []
noncomputable def iab4 : List (FuncId × Entry) := (48, E_ISubsOk) :: iab3
noncomputable def q_locationOk (br : Br) (s : ByteArray) (xs : List ByteArray) := evB br Tryz.prog iab4 [] LO0 Tryz.f71 [cS s, cP (pL xs)]
noncomputable def E_locationOk : Entry := fun ivs => match ivs with | [.cv (.pv (.str s)), .cv (.pv p)] => [(decide (s.size ≤ 1000000) && isL p, cB (placeB s (asL p)), [])] | _ => []
noncomputable def iab5 : List (FuncId × Entry) := (71, E_locationOk) :: iab4
noncomputable def E_nodeOk : Entry := fun ivs => match ivs with | [.cv (.pv p)] => [(isN p, cB (nodeB (asN p)), [])] | _ => []
def collL : List ByteArray → List ByteArray → Int
  | [], [] => 0
  | [], _ :: _ => -1
  | _ :: _, [] => 1
  | a :: x, b :: y => if coll a b = 0 then collL x y else coll a b
abbrev lp_CmpF : List (Nat × List Nat × List Nat) := [(2, [0, 1, 2, 11, 12, 13], [0, 1, 6])]
def collA : List ByteArray → List ByteArray → Option Int
  | [], _ => none
  | _ :: _, [] => some 1
  | a :: x, b :: y => if coll a b = 0 then collA x y else some (coll a b)
noncomputable def LO_CmpF : LoopT := fun _ ls => match ls with
  | [(.pv p, none), (.pv q, none), (.pv (.clo f []), none), (.pv p', none), (.pv (.int .i64 n), none), (.pv (.int .i64 i), none)] =>
    [(isL p && isL q && Nat.beq f 97 && eqP p' p && (n == ((asL p).length : Int)) && (i == 0) && (collA (asL p) (asL q)).isSome, .ret, [aP p, aP q, aI ((collA (asL p) (asL q)).getD 0)]),
      (isL p && isL q && Nat.beq f 97 && eqP p' p && (n == ((asL p).length : Int)) && (i == 0), .exit 0, [aP p, aP q, aX])]
  | _ => []
noncomputable def r_CmpF (br : Br) (xs ys : List ByteArray) (i : Int) := rdB br Tryz.prog iab0 lp_CmpF LO_CmpF Tryz.f96 2 [] [aP (pL xs), aP (pL ys), aP (.clo 97 []), aP (pL xs), aI xs.length, aI i]
noncomputable def q_CmpF (br : Br) (xs ys : List ByteArray) := evB br Tryz.prog iab0 lp_CmpF LO_CmpF Tryz.f96 [cP (pL xs), cP (pL ys), cP (.clo 97 [])]
noncomputable def E_CmpF : Entry := fun ivs => match ivs with | [.cv (.pv p), .cv (.pv q), .cv (.pv (.clo f []))] => [(isL p && isL q && Nat.beq f 97, cI (collL (asL p) (asL q)), [])] | _ => []
noncomputable def iab6 : List (FuncId × Entry) := (96, E_CmpF) :: iab5
noncomputable def q_collLists (br : Br) (xs ys : List ByteArray) := evB br Tryz.prog iab6 [] LO0 Tryz.f75 [cP (pL xs), cP (pL ys)]
noncomputable def E_collLists : Entry := fun ivs => match ivs with | [.cv (.pv p), .cv (.pv q)] => [(isL p && isL q, cI (collL (asL p) (asL q)), [])] | _ => []
abbrev lp_Or : List (Nat × List Nat × List Nat) := [(3, [3, 6, 7, 8], [2, 3])]
def LO_Or : LoopT := fun _ ls => match ls with
  | [(.pv (.int .i64 0), none), (.pv (.sl 2 [.int .i64 a, .int .i64 b]), none), (.pv (.int .i64 2), none), (.pv (.int .i64 0), none)] =>
    [(a != 0, .ret, [aI a, aI 0]), (b != 0, .ret, [aI b, aI 0]), (true, .exit 0, [aX, aI 0])]
  | _ => []
noncomputable def r_Or (br : Br) (a b : Int) (i : Int) := rdB br Tryz.prog [] lp_Or LO_Or Tryz.f73 3 [] [aI 0, aP (.sl 2 [.int .i64 a, .int .i64 b]), aI 2, aI i]
noncomputable def q_Or (br : Br) (a b : Int) := evB br Tryz.prog [] lp_Or LO_Or Tryz.f73 [cP (.sl 2 [.int .i64 a, .int .i64 b])]
def orI (a b : Int) : Int := if a = 0 then b else a
def E_Or : Entry := fun ivs => match ivs with | [.cv (.pv (.sl 2 [.int .i64 a, .int .i64 b]))] => [(true, cI (orI a b), [])] | _ => []
noncomputable def iab7 : List (FuncId × Entry) := (75, E_collLists) :: (73, E_Or) :: iab6
noncomputable def q_cmpLoc (br : Br) (a : ByteArray) (xs : List ByteArray) (b : ByteArray) (ys : List ByteArray) := evB br Tryz.prog iab7 [] LO0 Tryz.f53 [cS a, cP (pL xs), cS b, cP (pL ys)]
def cmpLoc (a : ByteArray) (xs : List ByteArray) (b : ByteArray) (ys : List ByteArray) : Int := orI (cmpS a b) (collL xs ys)
noncomputable def E_cmpLoc : Entry := fun ivs => match ivs with | [.cv (.pv (.str a)), .cv (.pv p), .cv (.pv (.str b)), .cv (.pv q)] => [(isL p && isL q, cI (cmpLoc a (asL p) b (asL q)), [])] | _ => []
end
section
set_option linter.unusedVariables false
set_option maxRecDepth 100000
theorem q_collLists_eq (xs : List ByteArray) (ys : List ByteArray) : q_collLists brC xs ys =
 brC (isL (PV.sl (List.length xs) (List.map PV.str xs)) && isL (PV.sl (List.length ys) (List.map PV.str ys)) && Nat.beq 97 97)
 (some ((IV.cv (CV.pv (PV.int IntKind.i64 (collL (asL (PV.sl (List.length xs) (List.map PV.str xs))) (asL (PV.sl (List.length ys) (List.map PV.str ys)))))), [])))
 (none) := by kernel_rfl
theorem q_cmpLoc_eq (a : ByteArray) (xs : List ByteArray) (b : ByteArray) (ys : List ByteArray) : q_cmpLoc brC a xs b ys =
 brC (isL (PV.sl (List.length xs) (List.map PV.str xs)) && isL (PV.sl (List.length ys) (List.map PV.str ys)))
 (some ((IV.cv (CV.pv (PV.int IntKind.i64 (orI (cmpS a b) (collL (asL (PV.sl (List.length xs) (List.map PV.str xs))) (asL (PV.sl (List.length ys) (List.map PV.str ys))))))), [])))
 (none) := by kernel_rfl
theorem q_Or_eq (a : Int) (b : Int) : q_Or brC a b =
 brC (a != 0)
 (some ((IV.cv (CV.pv (PV.int IntKind.i64 a)), [])))
 (brC (b != 0)
 (some ((IV.cv (CV.pv (PV.int IntKind.i64 b)), [])))
 (some ((IV.cv (CV.pv (PV.int IntKind.i64 (Int.ofNat 0))), [])))) := by kernel_rfl
theorem q_IdxS_eq (xs : List ByteArray) : q_IdxS brC xs =
 brC (isL (pL xs) && Nat.beq 68 68 && (↑(List.length xs) : Int) == (↑(List.length (asL (pL xs))) : Int) && 0 == 0 && decide (badIdx (asL (pL xs)) < List.length (asL (pL xs))))
 (some ((IV.cv (CV.pv (PV.int IntKind.i64 (↑(badIdx (asL (pL xs))) : Int))), [])))
 (brC (isL (pL xs) && Nat.beq 68 68 && (↑(List.length xs) : Int) == (↑(List.length (asL (pL xs))) : Int) && 0 == 0)
 (some ((IV.cv (CV.pv (PV.int IntKind.i64 (Int.negSucc 0))), [])))
 (none)) := by kernel_rfl
theorem q_ConS_eq (xs : List ByteArray) : q_ConS brC xs =
 brC (isL (PV.sl (List.length xs) (List.map PV.str xs)) && Nat.beq 68 68)
 (some ((IV.cv (CV.pv (PV.bool (decide ((if badIdx (asL (PV.sl (List.length xs) (List.map PV.str xs))) < List.length (asL (PV.sl (List.length xs) (List.map PV.str xs))) then (↑(badIdx (asL (PV.sl (List.length xs) (List.map PV.str xs)))) : Int) else -1) ≥ 0)))), [])))
 (none) := by kernel_rfl
theorem q_SubsOk1_eq (s : ByteArray) : q_SubsOk1 brC s =
 some ((IV.cv (CV.pv (PV.bool !subB s)), [])) := by kernel_rfl
theorem r_CmpF_eq (xs : List ByteArray) (ys : List ByteArray) (i : Int) : r_CmpF brC xs ys i =
 brC (decide (i < (↑(List.length xs) : Int)))
 (brC (decide (0 ≤ i) && decide (i < (↑(List.length xs) : Int)))
 (brC (Nat.blt 0 (List.length (List.drop (Int.toNat i * 1) (List.map PV.str xs))) && PV.isStr (List.headD (List.drop (Int.toNat i * 1) (List.map PV.str xs)) PV.nilp) && true)
 (brC (decide (i ≥ (↑(List.length ys) : Int)))
 (some (Sum.inr (Ex.ret, [(AV.pv (PV.sl (List.length xs) (List.map PV.str xs)), none), (AV.pv (PV.sl (List.length ys) (List.map PV.str ys)), none), (AV.pv (PV.int IntKind.i64 (Int.ofNat 1)), none)])))
 (brC (decide (0 ≤ i) && decide (i < (↑(List.length ys) : Int)))
 (brC (Nat.blt 0 (List.length (List.drop (Int.toNat i * 1) (List.map PV.str ys))) && PV.isStr (List.headD (List.drop (Int.toNat i * 1) (List.map PV.str ys)) PV.nilp) && true)
 (brC (decide (ByteArray.size (PV.asStr (List.headD (List.drop (Int.toNat i * 1) (List.map PV.str xs)) PV.nilp)) ≤ 1000000) && decide (ByteArray.size (PV.asStr (List.headD (List.drop (Int.toNat i * 1) (List.map PV.str ys)) PV.nilp)) ≤ 1000000))
 (brC (coll (PV.asStr (List.headD (List.drop (Int.toNat i * 1) (List.map PV.str xs)) PV.nilp)) (PV.asStr (List.headD (List.drop (Int.toNat i * 1) (List.map PV.str ys)) PV.nilp)) != 0)
 (some (Sum.inr (Ex.ret, [(AV.pv (PV.sl (List.length xs) (List.map PV.str xs)), none), (AV.pv (PV.sl (List.length ys) (List.map PV.str ys)), none), (AV.pv (PV.int IntKind.i64 (coll (PV.asStr (List.headD (List.drop (Int.toNat i * 1) (List.map PV.str xs)) PV.nilp)) (PV.asStr (List.headD (List.drop (Int.toNat i * 1) (List.map PV.str ys)) PV.nilp)))), none)])))
 (some (Sum.inl [(AV.pv (PV.sl (List.length xs) (List.map PV.str xs)), none), (AV.pv (PV.sl (List.length ys) (List.map PV.str ys)), none), (AV.pv (PV.clo 97 []), none), (AV.pv (PV.sl (List.length xs) (List.map PV.str xs)), none), (AV.pv (PV.int IntKind.i64 (↑(List.length xs) : Int)), none), (AV.pv (PV.int IntKind.i64 (IntKind.wrap IntKind.i64 (i + 1))), none)])))
 (none))
 (none))
 (none)))
 (none))
 (none))
 (some (Sum.inr (Ex.exit 0, [(AV.pv (PV.sl (List.length xs) (List.map PV.str xs)), none), (AV.pv (PV.sl (List.length ys) (List.map PV.str ys)), none), (AV.bad, none)]))) := by kernel_rfl
theorem r_IdxS_eq (xs : List ByteArray) (i : Int) : r_IdxS brC xs i =
 brC (decide (i < (↑(List.length xs) : Int)))
 (brC (decide (0 ≤ i) && decide (i < (↑(List.length xs) : Int)))
 (brC (Nat.blt 0 (List.length (List.drop (Int.toNat i * 1) (List.map PV.str xs))) && PV.isStr (List.headD (List.drop (Int.toNat i * 1) (List.map PV.str xs)) PV.nilp) && true)
 (brC (!subB (PV.asStr (List.headD (List.drop (Int.toNat i * 1) (List.map PV.str xs)) PV.nilp)))
 (some (Sum.inr (Ex.ret, [(AV.pv (PV.int IntKind.i64 i), none)])))
 (some (Sum.inl [(AV.pv (PV.sl (List.length xs) (List.map PV.str xs)), none), (AV.pv (PV.clo 68 []), none), (AV.pv (PV.int IntKind.i64 (↑(List.length xs) : Int)), none), (AV.pv (PV.int IntKind.i64 (IntKind.wrap IntKind.i64 (i + 1))), none)])))
 (none))
 (none))
 (some (Sum.inr (Ex.exit 0, [(AV.bad, none)]))) := by kernel_rfl
theorem r_Or_eq (a : Int) (b : Int) (i : Int) : r_Or brC a b i =
 brC (decide (i < 2))
 (brC (decide (0 ≤ i) && decide (i < (↑2 : Int)))
 (brC (Nat.blt 0 (List.length (List.drop (Int.toNat i * 1) [PV.int IntKind.i64 a, PV.int IntKind.i64 b])) && PV.isInt IntKind.i64 (List.headD (List.drop (Int.toNat i * 1) [PV.int IntKind.i64 a, PV.int IntKind.i64 b]) PV.nilp) && true)
 (brC (PV.asInt (List.headD (List.drop (Int.toNat i * 1) [PV.int IntKind.i64 a, PV.int IntKind.i64 b]) PV.nilp) != 0)
 (some (Sum.inr (Ex.ret, [(AV.pv (PV.int IntKind.i64 (PV.asInt (List.headD (List.drop (Int.toNat i * 1) [PV.int IntKind.i64 a, PV.int IntKind.i64 b]) PV.nilp))), none), (AV.pv (PV.int IntKind.i64 (Int.ofNat 0)), none)])))
 (some (Sum.inl [(AV.pv (PV.int IntKind.i64 (Int.ofNat 0)), none), (AV.pv (PV.sl 2 [PV.int IntKind.i64 a, PV.int IntKind.i64 b]), none), (AV.pv (PV.int IntKind.i64 (Int.ofNat 2)), none), (AV.pv (PV.int IntKind.i64 (IntKind.wrap IntKind.i64 (i + 1))), none)])))
 (none))
 (none))
 (some (Sum.inr (Ex.exit 0, [(AV.bad, none), (AV.pv (PV.int IntKind.i64 (Int.ofNat 0)), none)]))) := by kernel_rfl
theorem q_locationOk_eq (s : ByteArray) (xs : List ByteArray) : q_locationOk brC s xs =
 brC (decide (ByteArray.size s ≤ 1000000))
 (brC (nameB s)
 (brC (isL (PV.sl (List.length xs) (List.map PV.str xs)))
 (some ((IV.cv (CV.pv (PV.bool (subsB (asL (PV.sl (List.length xs) (List.map PV.str xs)))))), [])))
 (none))
 (some ((IV.cv (CV.pv (PV.bool false)), []))))
 (none) := by kernel_rfl
theorem q_ISubOk_eq (s : ByteArray) : q_ISubOk brC s =
 brC (decide ((↑(ByteArray.size s) : Int) ≥ 1))
 (some ((IV.cv (CV.pv (PV.bool (decide ((↑(ByteArray.size s) : Int) ≤ 24)))), [])))
 (some ((IV.cv (CV.pv (PV.bool false)), []))) := by kernel_rfl
theorem q_ISubsOk_eq (xs : List ByteArray) : q_ISubsOk brC xs =
 brC (decide ((↑(List.length xs) : Int) ≤ 4))
 (brC (isL (PV.sl (List.length xs) (List.map PV.str xs)) && Nat.beq 68 68)
 (some ((IV.cv (CV.pv (PV.bool !!List.all (asL (PV.sl (List.length xs) (List.map PV.str xs))) subB)), [])))
 (none))
 (some ((IV.cv (CV.pv (PV.bool false)), []))) := by kernel_rfl
theorem q_CmpF_eq (xs : List ByteArray) (ys : List ByteArray) : q_CmpF brC xs ys =
 brC (isL (pL xs) && isL (pL ys) && Nat.beq 97 97 && eqP (pL xs) (pL xs) && (↑(List.length xs) : Int) == (↑(List.length (asL (pL xs))) : Int) && 0 == 0 && Option.isSome (collA (asL (pL xs)) (asL (pL ys))))
 (some ((IV.cv (CV.pv (PV.int IntKind.i64 (Option.getD (collA (asL (pL xs)) (asL (pL ys))) 0))), [])))
 (brC (isL (pL xs) && isL (pL ys) && Nat.beq 97 97 && eqP (pL xs) (pL xs) && (↑(List.length xs) : Int) == (↑(List.length (asL (pL xs))) : Int) && 0 == 0)
 (brC (decide ((↑(List.length xs) : Int) < (↑(List.length ys) : Int)))
 (some ((IV.cv (CV.pv (PV.int IntKind.i64 (Int.negSucc 0))), [])))
 (some ((IV.cv (CV.pv (PV.int IntKind.i64 (Int.ofNat 0))), []))))
 (none)) := by kernel_rfl
end
section
open Go.RowKit
set_option linter.unusedVariables false
set_option linter.unusedSimpArgs false
set_option maxRecDepth 100000
theorem cmpV_zero (x y : Bool) : cmpV x y = 0 ↔ x = false ∧ y = false := by cases x <;> cases y <;> decide
theorem coll_zero {a b : ByteArray} : coll a b = 0 ↔ a = b := by
  constructor
  · intro h
    have key : a.data.toList = b.data.toList := by
      unfold coll collV at h
      by_cases ha : canonB a.data.toList = true
      · rw [if_pos ha] at h
        by_cases hb : canonB b.data.toList = true
        · rw [if_pos hb, cmpV_zero, decide_eq_false_iff_not, decide_eq_false_iff_not] at h
          have he : numOf a.data.toList = numOf b.data.toList := by omega
          unfold canonB at ha hb
          have ha' := of_decide_eq_true ha
          have hb' := of_decide_eq_true hb
          rw [← ha', ← hb', he]
        · rw [if_neg hb] at h; cases h
      · rw [if_neg ha] at h
        by_cases hb : canonB b.data.toList = true
        · rw [if_pos hb] at h; cases h
        · rw [if_neg hb, cmpV_zero] at h
          by_cases he : a.data.toList = b.data.toList
          · exact he
          · have := byteLt_total he
            rw [h.1, h.2] at this
            cases this
    rw [← bs_self a, ← bs_self b, key]
  · rintro rfl
    have h1 := collV_neg a.data.toList a.data.toList
    rw [before_irrefl] at h1
    unfold coll collV
    split
    · rw [cmpV_zero]
      simp
    · rw [cmpV_zero, byteLt_irrefl]
      exact ⟨rfl, rfl⟩
theorem coll_neg (a b : ByteArray) : decide (coll a b < 0) = bef a b := collV_neg _ _
theorem collL_neg : ∀ xs ys : List ByteArray, decide (collL xs ys < 0) = subsLt xs ys
  | [], [] => rfl
  | [], _ :: _ => rfl
  | _ :: _, [] => rfl
  | a :: x, b :: y => by
    unfold collL subsLt
    by_cases h : coll a b = 0
    · rw [if_pos h, if_pos (sEq_iff.2 (coll_zero.1 h))]
      exact collL_neg x y
    · rw [if_neg h, if_neg (fun e => h (coll_zero.2 (sEq_iff.1 e)))]
      exact coll_neg a b
theorem cmpS_neg (a b : ByteArray) : decide (cmpS a b < 0) = strLt a b := by
  unfold cmpS
  cases strLt a b <;> cases strLt b a <;> rfl
theorem strLt_total {a b : ByteArray} (h : a ≠ b) : (strLt a b || strLt b a) = true := by
  unfold strLt
  rw [less_eq, less_eq]
  exact byteLt_total fun e => h (by rw [← bs_self a, ← bs_self b, e])
theorem strLt_irrefl (a : ByteArray) : strLt a a = false := by unfold strLt; rw [less_eq]; exact byteLt_irrefl _
theorem cmpS_zero {a b : ByteArray} : cmpS a b = 0 ↔ a = b := by
  unfold cmpS
  rw [cmpV_zero]
  constructor
  · intro h
    by_cases he : a = b
    · exact he
    · have := strLt_total he
      rw [h.1, h.2] at this; cases this
  · rintro rfl
    exact ⟨strLt_irrefl a, strLt_irrefl a⟩
theorem cmpLoc_neg (a : ByteArray) (xs : List ByteArray) (b : ByteArray) (ys : List ByteArray) : decide (cmpLoc a xs b ys < 0) = locLt a xs b ys := by
  unfold cmpLoc orI locLt
  by_cases h : cmpS a b = 0
  · obtain rfl := cmpS_zero.1 h
    rw [if_pos h, strLt_irrefl, sEq_self]
    exact collL_neg xs ys
  · rw [if_neg h, cmpS_neg, sEq_false.2 fun e => h (cmpS_zero.2 e)]
    simp
theorem ok_INameOk : EntryOk Tryz.prog 30 E_INameOk := ⟨⟨_, Tryz.func30, by kernel_rfl, by kernel_rfl⟩, fun ivs res bxs h => by
  unfold E_INameOk at h
  split at h
  · rename_i s
    obtain ⟨hc, he⟩ := pick1 h
    cases he
    have hs : s.size ≤ 1000000 := of_decide_eq_true hc
    refine contract_flat (ps := [.str s]) (v := .bool (nameB s)) rfl fun w com vals hv _ => ?_
    obtain ⟨v, vs, rfl, hv, hn⟩ := hv.of_cons
    rw [hn.of_nil]
    cases hv
    refine (nameOk_any s _ rfl w (by omega)).mono ?_
    rintro e w' ⟨rfl, rfl⟩
    exact ⟨rfl, Below.refl _ _⟩
  · cases h⟩
theorem ok_ISubOk : EntryOk Tryz.prog 69 E_ISubOk := entry_of mix (tab := []) trivial (lp := []) (LO := LO0) ⟨Tryz.func69, by kernel_rfl, by kernel_rfl⟩ (by kernel_rfl) fun ivs res bxs h => by
  unfold E_ISubOk at h
  split at h
  · rename_i s
    cases h
    refine ⟨noLoop (by kernel_rfl), (q_ISubOk_eq s).trans ?_⟩
    unfold subB
    by_cases h1 : 1 ≤ s.size
    · rw [dT (show (s.size : Int) ≥ 1 by omega), dT h1, show decide ((s.size : Int) ≤ 24) = decide (s.size ≤ 24) by rw [decide_eq_decide]; omega]
      rfl
    · rw [dF (show ¬ (s.size : Int) ≥ 1 by omega), dF h1]
      rfl
  · cases h
theorem ok_cmpStr : EntryOk Tryz.prog 74 E_cmpStr := ⟨⟨_, Tryz.func74, by kernel_rfl, by kernel_rfl⟩, fun ivs res bxs h => by
  unfold E_cmpStr at h
  split at h
  · rename_i a b
    cases h
    refine contract_flat (ps := [.str a, .str b]) (v := .int .i64 (cmpS a b)) rfl fun w com vals hv _ => ?_
    obtain ⟨v, vs, rfl, hv1, hn⟩ := hv.of_cons
    obtain ⟨v2, vs2, rfl, hv2, hn2⟩ := hn.of_cons
    rw [hn2.of_nil]
    cases hv1
    cases hv2
    refine (cmpStr_any a b w).mono ?_
    rintro e w' ⟨rfl, rfl⟩
    unfold cmpS strLt
    rw [less_eq, less_eq]
    exact ⟨rfl, Below.refl _ _⟩
  · cases h⟩
theorem twI {α : Type} (p : α → Bool) : ∀ (t : List α) (i : Nat), i ≤ (t.takeWhile p).length → (h : i < t.length) → p t[i] = decide (i < (t.takeWhile p).length)
  | [], i, _, h => by cases h
  | x :: t, 0, h1, h => by
    rw [List.takeWhile_cons]
    cases hp : p x with
    | true => rw [List.getElem_cons_zero, hp]; simp
    | false => rw [List.getElem_cons_zero, hp]; simp
  | x :: t, i + 1, h1, h => by
    rw [List.takeWhile_cons] at h1 ⊢
    cases hp : p x with
    | true =>
      rw [hp] at h1
      simp only [if_pos, List.length_cons] at h1 ⊢
      rw [List.getElem_cons_succ, twI p t i (by omega) (by simpa using h), decide_eq_decide]
      omega
    | false => rw [hp] at h1; simp at h1
theorem tw_leI {α : Type} (p : α → Bool) (t : List α) : (t.takeWhile p).length ≤ t.length := by
  have := congrArg List.length (List.takeWhile_append_dropWhile (p := p) (l := t))
  rw [List.length_append] at this
  omega
theorem tab_gl {w : World} {com : Nat → Nat} (h : Gl w com) : Tab w := by
  unfold Gl at h
  replace h := h.2
  obtain ⟨⟨t, f, hb⟩, _⟩ := h.1
  unfold Tab Lib.TabIs World.var?
  rw [tab_global]
  dsimp only [Option.bind_some]
  rw [hb]
theorem ok_collate : EntryOk Tryz.prog 97 E_collate := ⟨⟨_, Tryz.func97, by kernel_rfl, by kernel_rfl⟩, fun ivs res bxs h => by
  unfold E_collate at h
  split at h
  · rename_i a b
    obtain ⟨hc, he⟩ := pick1 h
    cases he
    rw [Bool.and_eq_true, decide_eq_true_eq, decide_eq_true_eq] at hc
    refine contract_flatG (ps := [.str a, .str b]) (v := .int .i64 (coll a b)) rfl fun w com vals hv _ hgl => ?_
    obtain ⟨v, vs, rfl, hv1, hn⟩ := hv.of_cons
    obtain ⟨v2, vs2, rfl, hv2, hn2⟩ := hn.of_cons
    rw [hn2.of_nil]
    cases hv1
    cases hv2
    exact collate_any a b w (by omega) (by omega) (tab_gl hgl)
  · cases h⟩
theorem ok_iab0 : EntriesOk Tryz.prog iab0 := ⟨ok_INameOk, ok_ISubOk, ok_cmpStr, ok_collate, trivial⟩
theorem ok_SubsOk1 : EntryOk Tryz.prog 68 E_SubsOk1 := entry_of mix ok_iab0 (lp := []) (LO := LO0) ⟨Tryz.func68, by kernel_rfl, by kernel_rfl⟩ (by kernel_rfl) fun ivs res bxs h => by
  unfold E_SubsOk1 at h
  split at h
  · rename_i s
    cases h
    exact ⟨noLoop (by kernel_rfl), q_SubsOk1_eq s⟩
  · cases h
theorem ok_iab1 : EntriesOk Tryz.prog iab1 := ⟨ok_SubsOk1, ok_iab0⟩
theorem IdxS_loop (xs : List ByteArray) (h : shL xs) : ∀ (m i : Nat), m + i = badIdx xs → LoopsTo (rdB brC Tryz.prog iab1 lp_IdxS LO_IdxS Tryz.f90 2 []) [aP (pL xs), aP (.clo 68 []), aI xs.length, aI i]
    (if badIdx xs < xs.length then (.ret, [aI (badIdx xs)]) else (.exit 0, [aX])) := by
  have hl := h.1
  have hle : badIdx xs ≤ xs.length := tw_leI _ _
  intro m
  induction m with
  | zero =>
    intro i hm
    obtain rfl : i = badIdx xs := by omega
    have tree := r_IdxS_eq xs (badIdx xs)
    by_cases hi : badIdx xs < xs.length
    · have hp : subB xs[badIdx xs] = false := (twI subB xs (badIdx xs) (Nat.le_refl _) hi).trans (decide_eq_false (Nat.lt_irrefl _))
      simp (disch := omega) only [dT, Int.toNat_natCast, drop_strs xs _ hi, List.length_cons, List.headD_cons, PV.isStr, PV.asStr, blt0, Bool.and_true, hp] at tree
      rw [if_pos hi]
      exact .done _ _ tree
    · rw [dF (by omega)] at tree
      rw [if_neg hi]
      exact .done _ _ tree
  | succ m ih =>
    intro i hm
    have hi : i < xs.length := by omega
    have hp : subB xs[i] = true := (twI subB xs i (by unfold badIdx at hm; omega) hi).trans (decide_eq_true (by unfold badIdx at hm; omega))
    have tree := r_IdxS_eq xs i
    simp (disch := omega) only [dT, Int.toNat_natCast, drop_strs xs _ hi, List.length_cons, List.headD_cons, PV.isStr, PV.asStr, blt0, wrap1, Bool.and_true, hp] at tree
    exact .step _ _ _ tree (ih (i + 1) (by omega))
theorem ok_IdxS : EntryOk Tryz.prog 90 E_IdxS := entry_of mix ok_iab1 (lp := lp_IdxS) (LO := LO_IdxS) ⟨Tryz.func90, by kernel_rfl, by kernel_rfl⟩ (by kernel_rfl) fun ivs res bxs h => by
  unfold E_IdxS at h
  split at h
  · rename_i p f
    obtain ⟨hc, he⟩ := pick1 h
    cases he
    rw [Bool.and_eq_true] at hc
    obtain ⟨xs, rfl, hx⟩ := isL_inv hc.1
    rw [Nat.eq_of_beq_eq_true hc.2]
    refine ⟨oneLoop 2 (by kernel_rfl) (by kernel_rfl) (by kernel_rfl) ?_, (q_IdxS_eq xs).trans ?_⟩
    · intro ls e ls' hl
      unfold LO_IdxS at hl
      split at hl
      · rename_i p f n i
        cases hg : (isL p && Nat.beq f 68 && (n == ((asL p).length : Int)) && (i == 0)) with
        | false => rw [hg] at hl; simp only [pickA, Bool.false_and, cond_false] at hl; cases hl
        | true =>
          rw [hg, Bool.true_and] at hl
          simp only [Bool.and_eq_true, beq_iff_eq] at hg
          obtain ⟨ys, rfl, hy⟩ := isL_inv hg.1.1.1
          simp only [asL_mk] at hl hg
          rw [Nat.eq_of_beq_eq_true hg.1.1.2, hg.1.2, hg.2]
          have := IdxS_loop ys hy (badIdx ys) 0 (by omega)
          by_cases ha : badIdx ys < ys.length
          · rw [if_pos ha] at this
            rw [dT ha] at hl
            cases hl; exact this
          · rw [if_neg ha] at this
            rw [dF ha] at hl
            cases hl; exact this
      · cases hl
    · simp only [isL_mk hx, asL_mk, beq_self_eq_true, Bool.and_true, Nat.beq_refl, Bool.true_and]
      by_cases ha : badIdx xs < xs.length
      · rw [dT ha, if_pos ha]; rfl
      · rw [dF ha, if_neg ha]; rfl
  · cases h
theorem ok_iab2 : EntriesOk Tryz.prog iab2 := ⟨ok_IdxS, ok_iab1⟩
theorem bad_all : ∀ xs : List ByteArray, badIdx xs < xs.length ↔ xs.all subB = false
  | [] => by simp [badIdx]
  | x :: xs => by
    unfold badIdx
    rw [List.takeWhile_cons, List.all_cons]
    cases hp : subB x with
    | true =>
      have := bad_all xs
      unfold badIdx at this
      simpa using this
    | false => simp
theorem ok_ConS : EntryOk Tryz.prog 67 E_ConS := entry_of mix ok_iab2 (lp := []) (LO := LO0) ⟨Tryz.func67, by kernel_rfl, by kernel_rfl⟩ (by kernel_rfl) fun ivs res bxs h => by
  unfold E_ConS at h
  split at h
  · rename_i p f
    obtain ⟨hc, he⟩ := pick1 h
    cases he
    rw [Bool.and_eq_true] at hc
    obtain ⟨xs, rfl, hx⟩ := isL_inv hc.1
    rw [Nat.eq_of_beq_eq_true hc.2]
    refine ⟨noLoop (by kernel_rfl), (q_ConS_eq xs).trans ?_⟩
    simp only [isL_mk hx, asL_mk, Nat.beq_refl, Bool.and_true]
    have hb := bad_all xs
    cases ha : xs.all subB with
    | false => rw [if_pos (hb.2 ha), dT (by omega)]; rfl
    | true => rw [if_neg (fun h => by rw [hb.1 h] at ha; cases ha)]; rfl
  · cases h
theorem ok_iab3 : EntriesOk Tryz.prog iab3 := ⟨ok_ConS, ok_iab2⟩
theorem ok_ISubsOk : EntryOk Tryz.prog 48 E_ISubsOk := entry_of mix ok_iab3 (lp := []) (LO := LO0) ⟨Tryz.func48, by kernel_rfl, by kernel_rfl⟩ (by kernel_rfl) fun ivs res bxs h => by
  unfold E_ISubsOk at h
  split at h
  · rename_i p
    obtain ⟨hc, he⟩ := pick1 h
    cases he
    obtain ⟨xs, rfl, hx⟩ := isL_inv hc
    refine ⟨noLoop (by kernel_rfl), (q_ISubsOk_eq xs).trans ?_⟩
    simp only [isL_mk hx, asL_mk, Nat.beq_refl, Bool.and_true]
    unfold subsB
    by_cases h4 : xs.length ≤ 4
    · rw [dT (show (xs.length : Int) ≤ 4 by omega), dT h4]
      cases xs.all subB <;> rfl
    · rw [dF (show ¬ (xs.length : Int) ≤ 4 by omega), dF h4]
      rfl
  · cases h
theorem ok_iab4 : EntriesOk Tryz.prog iab4 := ⟨ok_ISubsOk, ok_iab3⟩
theorem ok_locationOk : EntryOk Tryz.prog 71 E_locationOk := entry_of mix ok_iab4 (lp := []) (LO := LO0) ⟨Tryz.func71, by kernel_rfl, by kernel_rfl⟩ (by kernel_rfl) fun ivs res bxs h => by
  unfold E_locationOk at h
  split at h
  · rename_i s p
    obtain ⟨hc, he⟩ := pick1 h
    cases he
    rw [Bool.and_eq_true] at hc
    obtain ⟨xs, rfl, hx⟩ := isL_inv hc.2
    refine ⟨noLoop (by kernel_rfl), (q_locationOk_eq s xs).trans ?_⟩
    simp only [isL_mk hx, asL_mk, hc.1]
    unfold placeB
    cases nameB s <;> rfl
  · cases h
theorem ok_iab5 : EntriesOk Tryz.prog iab5 := ⟨ok_locationOk, ok_iab4⟩
theorem CmpF_loop (xs ys : List ByteArray) (h : shL xs) (k : shL ys) : ∀ (m i : Nat), m + i = xs.length → LoopsTo (rdB brC Tryz.prog iab0 lp_CmpF LO_CmpF Tryz.f96 2 [])
    [aP (pL xs), aP (pL ys), aP (.clo 97 []), aP (pL xs), aI xs.length, aI i] (match collA (xs.drop i) (ys.drop i) with | some r => (.ret, [aP (pL xs), aP (pL ys), aI r]) | none => (.exit 0, [aP (pL xs), aP (pL ys), aX])) := by
  have hl := h.1
  intro m
  induction m with
  | zero =>
    intro i hm
    obtain rfl : i = xs.length := by omega
    rw [List.drop_length]
    refine .done _ _ ((r_CmpF_eq xs ys xs.length).trans ?_)
    rw [dF (by omega)]
    rfl
  | succ m ih =>
    intro i hm
    have hi : i < xs.length := by omega
    have s1 := shL_at h hi
    rw [List.drop_eq_getElem_cons hi]
    have tree := r_CmpF_eq xs ys i
    by_cases hy : i < ys.length
    · have s2 := shL_at k hy
      rw [List.drop_eq_getElem_cons hy]
      unfold collA
      simp (disch := omega) only [dT, dF, Int.toNat_natCast, drop_strs xs i hi, drop_strs ys i hy, List.length_cons, List.headD_cons, PV.isStr, PV.asStr, blt0, wrap1, Bool.and_true] at tree
      by_cases hc : coll xs[i] ys[i] = 0
      · rw [if_pos hc]
        rw [hc] at tree
        exact .step _ _ _ tree (ih (i + 1) (by omega))
      · rw [if_neg hc]
        rw [bne_iff_ne.2 hc] at tree
        exact .done _ _ tree
    · rw [List.drop_eq_nil_of_le (show ys.length ≤ i by omega)]
      simp (disch := omega) only [dT, dF, Int.toNat_natCast, drop_strs xs i hi, List.length_cons, List.headD_cons, PV.isStr, PV.asStr, blt0, wrap1, Bool.and_true] at tree
      exact .done _ _ tree
theorem collL_A : ∀ xs ys : List ByteArray, collL xs ys = match collA xs ys with | some r => r | none => if xs.length < ys.length then -1 else 0
  | [], [] => rfl
  | [], _ :: _ => by show -1 = if 0 < _ + 1 then (-1 : Int) else 0; rw [if_pos (Nat.succ_pos _)]
  | _ :: _, [] => rfl
  | a :: x, b :: y => by
    unfold collL collA
    by_cases hc : coll a b = 0
    · rw [if_pos hc, if_pos hc, collL_A x y]
      cases collA x y with
      | some r => rfl
      | none =>
        show (if x.length < y.length then (-1 : Int) else 0) = if x.length + 1 < y.length + 1 then -1 else 0
        by_cases hlt : x.length < y.length
        · rw [if_pos hlt, if_pos (by omega)]
        · rw [if_neg hlt, if_neg (by omega)]
    · rw [if_neg hc, if_neg hc]
theorem ok_CmpF : EntryOk Tryz.prog 96 E_CmpF := entry_of mix ok_iab0 (lp := lp_CmpF) (LO := LO_CmpF) ⟨Tryz.func96, by kernel_rfl, by kernel_rfl⟩ (by kernel_rfl) fun ivs res bxs h => by
  unfold E_CmpF at h
  split at h
  · rename_i p q f
    obtain ⟨hc, he⟩ := pick1 h
    cases he
    simp only [Bool.and_eq_true] at hc
    obtain ⟨xs, rfl, hx⟩ := isL_inv hc.1.1
    obtain ⟨ys, rfl, hy⟩ := isL_inv hc.1.2
    rw [Nat.eq_of_beq_eq_true hc.2]
    refine ⟨oneLoop 2 (by kernel_rfl) (by kernel_rfl) (by kernel_rfl) ?_, (q_CmpF_eq xs ys).trans ?_⟩
    · intro ls e ls' hl
      unfold LO_CmpF at hl
      split at hl
      · rename_i p q f p' n i
        cases hg : (isL p && isL q && Nat.beq f 97 && eqP p' p && (n == ((asL p).length : Int)) && (i == 0)) with
        | false => rw [hg] at hl; simp only [pickA, Bool.false_and, cond_false] at hl; cases hl
        | true =>
          rw [hg, Bool.true_and] at hl
          simp only [Bool.and_eq_true, beq_iff_eq] at hg
          obtain ⟨us, rfl, hu⟩ := isL_inv hg.1.1.1.1.1
          obtain ⟨vs, rfl, hv⟩ := isL_inv hg.1.1.1.1.2
          simp only [asL_mk] at hl hg
          rw [Nat.eq_of_beq_eq_true hg.1.1.1.2, eqP_inv hg.1.1.2, hg.1.2, hg.2]
          have := CmpF_loop us vs hu hv us.length 0 (by omega)
          rw [List.drop_zero, List.drop_zero] at this
          cases ha : collA us vs <;> rw [ha] at hl this <;> cases hl <;> exact this
      · cases hl
    · simp only [isL_mk hx, isL_mk hy, asL_mk, beq_self_eq_true, Bool.and_true, Nat.beq_refl, Bool.true_and, eqP_mk, collL_A xs ys]
      cases collA xs ys with
      | some r => rfl
      | none =>
        by_cases hlt : xs.length < ys.length
        · rw [dT (show (xs.length : Int) < (ys.length : Int) by omega)]
          dsimp only
          rw [if_pos hlt]; rfl
        · rw [dF (show ¬ (xs.length : Int) < (ys.length : Int) by omega)]
          dsimp only
          rw [if_neg hlt]; rfl
  · cases h
theorem ok_iab6 : EntriesOk Tryz.prog iab6 := ⟨ok_CmpF, ok_iab5⟩
theorem ok_collLists : EntryOk Tryz.prog 75 E_collLists := entry_of mix ok_iab6 (lp := []) (LO := LO0) ⟨Tryz.func75, by kernel_rfl, by kernel_rfl⟩ (by kernel_rfl) fun ivs res bxs h => by
  unfold E_collLists at h
  split at h
  · rename_i p q
    obtain ⟨hc, he⟩ := pick1 h
    cases he
    rw [Bool.and_eq_true] at hc
    obtain ⟨xs, rfl, hx⟩ := isL_inv hc.1
    obtain ⟨ys, rfl, hy⟩ := isL_inv hc.2
    refine ⟨noLoop (by kernel_rfl), (q_collLists_eq xs ys).trans ?_⟩
    simp only [isL_mk hx, isL_mk hy, asL_mk]
    rfl
  · cases h
theorem ok_Or : EntryOk Tryz.prog 73 E_Or := entry_of mix (tab := []) trivial (lp := lp_Or) (LO := LO_Or) ⟨Tryz.func73, by kernel_rfl, by kernel_rfl⟩ (by kernel_rfl) fun ivs res bxs h => by
  unfold E_Or at h
  split at h
  · rename_i a b
    cases h
    refine ⟨oneLoop 3 (by kernel_rfl) (by kernel_rfl) (by kernel_rfl) ?_, (q_Or_eq a b).trans ?_⟩
    · intro ls e ls' hl
      unfold LO_Or at hl
      split at hl
      · rename_i a b
        have t0 := r_Or_eq a b 0
        have t1 := r_Or_eq a b 1
        have t2 := r_Or_eq a b 2
        cases ha : (a != 0) with
        | true =>
          rw [ha] at hl
          cases hl
          have e0 : (PV.asInt (List.headD (List.drop (Int.toNat 0 * 1) [PV.int IntKind.i64 a, PV.int IntKind.i64 b]) PV.nilp) != 0) = true := ha
          rw [e0] at t0
          exact .done _ _ t0
        | false =>
          rw [ha] at hl
          have e0 : (PV.asInt (List.headD (List.drop (Int.toNat 0 * 1) [PV.int IntKind.i64 a, PV.int IntKind.i64 b]) PV.nilp) != 0) = false := ha
          rw [e0] at t0
          refine .step _ _ _ t0 ?_
          cases hb : (b != 0) with
          | true =>
            rw [hb] at hl
            cases hl
            have e1 : (PV.asInt (List.headD (List.drop (Int.toNat 1 * 1) [PV.int IntKind.i64 a, PV.int IntKind.i64 b]) PV.nilp) != 0) = true := hb
            rw [e1] at t1
            exact .done _ _ t1
          | false =>
            rw [hb] at hl
            cases hl
            have e1 : (PV.asInt (List.headD (List.drop (Int.toNat 1 * 1) [PV.int IntKind.i64 a, PV.int IntKind.i64 b]) PV.nilp) != 0) = false := hb
            rw [e1] at t1
            exact .step _ _ _ t1 (.done _ _ t2)
      · cases hl
    · unfold orI
      by_cases ha : a = 0
      · subst ha
        rw [if_pos rfl]
        by_cases hb : b = 0
        · subst hb; rfl
        · rw [bne_iff_ne.2 hb]; rfl
      · rw [if_neg ha, bne_iff_ne.2 ha]; rfl
  · cases h
theorem ok_iab7 : EntriesOk Tryz.prog iab7 := ⟨ok_collLists, ok_Or, ok_iab6⟩
theorem ok_cmpLoc : EntryOk Tryz.prog 53 E_cmpLoc := entry_of mix ok_iab7 (lp := []) (LO := LO0) ⟨Tryz.func53, by kernel_rfl, by kernel_rfl⟩ (by kernel_rfl) fun ivs res bxs h => by
  unfold E_cmpLoc at h
  split at h
  · rename_i a p b q
    obtain ⟨hc, he⟩ := pick1 h
    cases he
    rw [Bool.and_eq_true] at hc
    obtain ⟨xs, rfl, hx⟩ := isL_inv hc.1
    obtain ⟨ys, rfl, hy⟩ := isL_inv hc.2
    refine ⟨noLoop (by kernel_rfl), (q_cmpLoc_eq a xs b ys).trans ?_⟩
    simp only [isL_mk hx, isL_mk hy, asL_mk]
    rfl
  · cases h
end
section
open Go.RowKit
set_option linter.unusedVariables false
end
section
set_option linter.unusedVariables false
set_option maxRecDepth 100000
end
section
open Go.RowKit
set_option linter.unusedVariables false
set_option linter.unusedSimpArgs false
end
section
open Go.RowKit
set_option linter.unusedVariables false
end
section
set_option linter.unusedVariables false
set_option maxRecDepth 100000
end
section
open Go.RowKit
set_option linter.unusedVariables false
set_option linter.unusedSimpArgs false
set_option maxRecDepth 100000
end
section
open Go.RowKit Go.Shelf
set_option linter.unusedVariables false
theorem digR_cons (n : Nat) (c : UInt8) (l : List UInt8) : digR n (c :: l) = if isDig c = true then digR (min (10 * n + dval c) 1000000000000) l else (n, c :: l) := rfl
theorem frR_cons (n u : Nat) (c : UInt8) (l : List UInt8) : frR n u (c :: l) = if isDig c = true then frR (n + dval c * u) (u / 10) l else n := rfl
theorem fracR_dot (n : Nat) (t : List UInt8) : fracR n (46 :: t) = frR n 100000 t := by
  show (if (46 : UInt8) = 46 then frR n 100000 t else n) = _
  rw [if_pos rfl]
theorem l00Min_any (a b : Int) (w : World) : Calls Tryz.prog 98 #[.int .i64 a, .int .i64 b] w fun e w' => e = .returned (.int .i64 (min a b)) ∧ w = w' := by
  generalize hg : min a b = c
  have HG := Lib.hid hg; clear hg
  by_cases h : a < b
  · go_enter Tryz.func98, Tryz.ntmps98
    go_wp2
    go_ret
    exact ⟨ret_int (by have := HG.out; show a = c; omega), rfl⟩
  · go_enter Tryz.func98, Tryz.ntmps98
    go_wp2
    go_ret
    exact ⟨ret_int (by have := HG.out; show b = c; omega), rfl⟩
set_option maxHeartbeats 4000000 in
set_option maxRecDepth 100000 in
theorem l01Of_any (s : ByteArray) (w : World) (hs : s.size ≤ 9223372036854775000) : Calls Tryz.prog 79 #[.string s] w fun e w' => e = .returned (.int .i64 (numOf s.data.toList)) ∧ w = w' := by
  have HL := Lib.hid (size_len s)
  generalize hno : numOf s.data.toList = res
  have HNO := Lib.hid hno; clear hno
  go_enter Tryz.func79, Tryz.ntmps79
  go_upto_block 0 with fail
  go_cut [3, 4] (fun i b wc => ∃ k : Nat, k ≤ s.size ∧ i = .int .i64 k ∧ b = .bool (negB s.data.toList) ∧ Hid (s.data.toList.drop k = s.data.toList.dropWhile isSign) ∧ w = wc)
  case first =>
    go_wp2_with fail
    go_loop [3, 4] (fun i b => ∃ (k : Nat) (c : Bool), k ≤ s.size ∧ i = .int .i64 k ∧ b = .bool c ∧ Hid (sgnR c (s.data.toList.drop k) = (negB s.data.toList, s.data.toList.dropWhile isSign))) (fun i _ => s.size - (intOf i).toNat)
    case atStart => exact ⟨0, false, by omega, rfl, rfl, Lib.hid (by rw [List.drop_zero, sgnR_eq, Bool.false_bne])⟩
    case round =>
      obtain ⟨k, c, hk, rfl, rfl, hg⟩ := hrel
      by_cases hlt : k < s.size
      · have HDr := Lib.hid (drop_at' s k hlt)
        have hx : s[k].toNat < 256 := UInt8.toNat_lt _
        by_cases h43 : s[k] = 43
        · have q1 : ((s[k].toNat : Int) == 43) = true := beq_iff_eq.2 (by rw [h43]; rfl)
          have q2 : ((s[k].toNat : Int) == 45) = false := beq_eq_false_iff_ne.2 (by rw [h43]; decide)
          have HN := Lib.hid (show sgnR c (s.data.toList.drop (k + 1)) = (negB s.data.toList, s.data.toList.dropWhile isSign) by
            have h := hg.out
            rw [HDr.out] at h
            unfold sgnR at h
            rw [h43, if_pos (show isSign 43 = true from rfl), show ((43 : UInt8) == 45) = false from rfl, Bool.bne_false] at h
            exact h)
          clear h43 hg HDr
          go_wp2_with fail
          go_round
          case rel => exact ⟨k + 1, c, by omega, by go_num, by cases c <;> rfl, HN⟩
          case measure => simp [intOf]; omega
        · by_cases h45 : s[k] = 45
          · have q1 : ((s[k].toNat : Int) == 43) = false := beq_eq_false_iff_ne.2 (by rw [h45]; decide)
            have q2 : ((s[k].toNat : Int) == 45) = true := beq_iff_eq.2 (by rw [h45]; rfl)
            have HN := Lib.hid (show sgnR (!c) (s.data.toList.drop (k + 1)) = (negB s.data.toList, s.data.toList.dropWhile isSign) by
              have h := hg.out
              rw [HDr.out] at h
              unfold sgnR at h
              rw [h45, if_pos (show isSign 45 = true from rfl), show ((45 : UInt8) == 45) = true from rfl, Bool.bne_true] at h
              exact h)
            clear h43 h45 hg HDr
            go_wp2_with fail
            go_round
            case rel => exact ⟨k + 1, !c, by omega, by go_num, by cases c <;> rfl, HN⟩
            case measure => simp [intOf]; omega
          · have q1 : ((s[k].toNat : Int) == 43) = false := beq_eq_false_iff_ne.2 (fun e => h43 (UInt8.toNat_inj.1 (by show s[k].toNat = 43; omega)))
            have q2 : ((s[k].toNat : Int) == 45) = false := beq_eq_false_iff_ne.2 (fun e => h45 (UInt8.toNat_inj.1 (by show s[k].toNat = 45; omega)))
            have HN := Lib.hid (show c = negB s.data.toList ∧ s.data.toList.drop k = s.data.toList.dropWhile isSign by
              have h := hg.out
              rw [HDr.out] at h ⊢
              have hns : ¬ isSign s[k] = true := by unfold isSign; simp [h43, h45]
              unfold sgnR at h
              rw [if_neg hns] at h
              exact ⟨congrArg Prod.fst h, congrArg Prod.snd h⟩)
            clear h43 h45 hg HDr
            go_wp2_with fail
            go_meet
            exact ⟨k, hk, rfl, by rw [HN.out.1], Lib.hid HN.out.2, rfl⟩
      · have HN := Lib.hid (show c = negB s.data.toList ∧ s.data.toList.drop k = s.data.toList.dropWhile isSign by
          have h := hg.out
          have hn : s.data.toList.drop k = [] := List.drop_eq_nil_of_le (by rw [← size_len]; omega)
          rw [hn] at h ⊢
          exact ⟨congrArg Prod.fst h, congrArg Prod.snd h⟩)
        clear hg
        go_wp2_with fail
        go_meet
        exact ⟨k, hk, rfl, by rw [HN.out.1], Lib.hid HN.out.2, rfl⟩
  case rest =>
  obtain ⟨k0, hk0, rfl, rfl, HK0, rfl⟩ := hcut
  have HDG := Lib.hid (digR_eq 0 (s.data.toList.dropWhile isSign))
  go_upto_block 2 with fail
  go_cut [3, 5] (fun i n wc => ∃ k z : Nat, k ≤ s.size ∧ i = .int .i64 k ∧ n = .int .i64 z ∧ z ≤ 1000000000000 ∧ Hid ((z, s.data.toList.drop k) = digR 0 (s.data.toList.dropWhile isSign)) ∧ w = wc)
  case first =>
    go_wp2_with fail
    go_loop [3, 5] (fun i n => ∃ k z : Nat, k ≤ s.size ∧ i = .int .i64 k ∧ n = .int .i64 z ∧ z ≤ 1000000000000 ∧ Hid (digR z (s.data.toList.drop k) = digR 0 (s.data.toList.dropWhile isSign))) (fun i _ => s.size - (intOf i).toNat)
    case atStart => exact ⟨k0, 0, hk0, rfl, rfl, by omega, Lib.hid (by rw [HK0.out])⟩
    case round =>
      obtain ⟨k, z, hk, rfl, rfl, hz, hg⟩ := hrel
      by_cases hlt : k < s.size
      · have HDr := Lib.hid (drop_at' s k hlt)
        have hx : s[k].toNat < 256 := UInt8.toNat_lt _
        cases hD : isDig s[k]
        · have HN := Lib.hid (show (z, s.data.toList.drop k) = digR 0 (s.data.toList.dropWhile isSign) by
            have h := hg.out
            rw [HDr.out] at h ⊢
            rw [digR_cons, if_neg (by rw [hD]; simp)] at h
            exact h)
          have HDD := Lib.hid hD
          clear hg HDr hD
          go_wp2_with fail
          refine (l01Digit_any s[k].toNat false HDD.out _).mono ?_
          rintro e w1 ⟨rfl, rfl⟩
          go_wp2_with fail
          go_meet
          exact ⟨k, z, hk, rfl, rfl, hz, HN, rfl⟩
        · have HN := Lib.hid (show digR (min (10 * z + dval s[k]) 1000000000000) (s.data.toList.drop (k + 1)) = digR 0 (s.data.toList.dropWhile isSign) by
            have h := hg.out
            rw [HDr.out] at h
            rw [digR_cons, if_pos hD] at h
            exact h)
          have HDD := Lib.hid hD
          have hdd : 48 ≤ s[k].toNat ∧ s[k].toNat ≤ 57 := by unfold isDig at hD; simpa using hD
          have hdv := Lib.hid (show dval s[k] = s[k].toNat - 48 from rfl)
          obtain ⟨d1, d2⟩ := hdd
          clear hg HDr hD
          go_wp2_with fail
          refine (l01Digit_any s[k].toNat true HDD.out _).mono ?_
          rintro e w1 ⟨rfl, rfl⟩
          go_wp2_with fail
          refine (l00Min_any _ _ _).mono ?_
          rintro e w1 ⟨rfl, rfl⟩
          have HM := Lib.hid (show min (10 * (z : Int) + ((s[k].toNat : Int) - 48)) 1000000000000 = ((min (10 * z + dval s[k]) 1000000000000 : Nat) : Int) by have := hdv.out; omega)
          have hb2 : min (10 * z + dval s[k]) 1000000000000 ≤ 1000000000000 := Nat.min_le_right _ _
          generalize hz2 : min (10 * z + dval s[k]) 1000000000000 = z2 at *
          clear hz2
          rw [HM.out]
          go_wp2_with fail
          go_round
          case rel => exact ⟨k + 1, z2, by omega, by go_num, rfl, hb2, HN⟩
          case measure => simp [intOf]; omega
      · have HN := Lib.hid (show (z, s.data.toList.drop k) = digR 0 (s.data.toList.dropWhile isSign) by
          have h := hg.out
          have hn : s.data.toList.drop k = [] := List.drop_eq_nil_of_le (by rw [← size_len]; omega)
          rw [hn] at h ⊢
          exact h)
        clear hg
        go_wp2_with fail
        go_meet
        exact ⟨k, z, hk, rfl, rfl, hz, HN, rfl⟩
  case rest =>
  obtain ⟨k, z, hk, rfl, rfl, hz, HZ, rfl⟩ := hcut
  have HR0 := Lib.hid (show res = if negB s.data.toList = true then -((min (fracR (min (z * 1000000) 1000000000000000000) (s.data.toList.drop k)) 999999999999999999 : Nat) : Int) else ((min (fracR (min (z * 1000000) 1000000000000000000) (s.data.toList.drop k)) 999999999999999999 : Nat) : Int) by
    rw [← HNO.out]
    unfold numOf
    rw [← refNum_eq]
    unfold refNum
    rw [← HZ.out])
  clear HDG HK0 HNO HZ
  go_wp2_with fail
  refine (l00Min_any _ _ _).mono ?_
  rintro e w1 ⟨rfl, rfl⟩
  have HM := Lib.hid (show min ((z : Int) * 1000000) 1000000000000000000 = ((min (z * 1000000) 1000000000000000000 : Nat) : Int) by omega)
  have hm1 : min (z * 1000000) 1000000000000000000 ≤ 1000000000000000000 := Nat.min_le_right _ _
  generalize min (z * 1000000) 1000000000000000000 = n1 at *
  rw [HM.out]
  clear HM hz
  have tail : ∀ (n2 : Nat), n2 ≤ 9000000000000000000 → Hid (n2 = fracR n1 (s.data.toList.drop k)) → Hid (res = if negB s.data.toList = true then -((min n2 999999999999999999 : Nat) : Int) else ((min n2 999999999999999999 : Nat) : Int)) := by
    intro n2 _ h
    rw [h.out]; exact HR0
  clear HR0
  generalize negB s.data.toList = ng at *
  obtain ⟨dot, HDO⟩ : ∃ d : Bool, Hid (d = decide (k < s.size ∧ s.data.toList.getD k 0 = 46)) := ⟨_, Lib.hid rfl⟩
  go_upto_region 11 with fail
  go_cut [64] (fun d wc => d = .bool dot ∧ w = wc)
  case first =>
    by_cases hlt : k < s.size
    · have hx : s[k].toNat < 256 := UInt8.toNat_lt _
      by_cases h46 : s[k] = 46
      · have q1 : ((s[k].toNat : Int) == 46) = true := beq_iff_eq.2 (by rw [h46]; rfl)
        have HD2 := Lib.hid (show dot = true by rw [HDO.out]; exact decide_eq_true ⟨hlt, by rw [idx_getD s k hlt]; exact h46⟩)
        clear h46
        go_wp2_with fail
        go_meet
        exact ⟨by rw [HD2.out], rfl⟩
      · have q1 : ((s[k].toNat : Int) == 46) = false := beq_eq_false_iff_ne.2 (fun e => h46 (UInt8.toNat_inj.1 (by show s[k].toNat = 46; omega)))
        have HD2 := Lib.hid (show dot = false by rw [HDO.out]; exact decide_eq_false (fun h => h46 (by rw [← idx_getD s k hlt]; exact h.2)))
        clear h46
        go_wp2_with fail
        go_meet
        exact ⟨by rw [HD2.out], rfl⟩
    · have HD2 := Lib.hid (show dot = false by rw [HDO.out]; exact decide_eq_false (fun h => hlt h.1))
      go_wp2_with fail
      go_meet
      exact ⟨by rw [HD2.out], rfl⟩
  case rest =>
  obtain ⟨rfl, rfl⟩ := hcut
  go_upto_if 64 with fail
  go_cut [5] (fun n wc => ∃ n2 : Nat, n2 ≤ 9000000000000000000 ∧ n = .int .i64 n2 ∧ Hid (n2 = fracR n1 (s.data.toList.drop k)) ∧ w = wc)
  case first =>
    cases dot
    · have HF := Lib.hid (show n1 = fracR n1 (s.data.toList.drop k) by
        have hn := of_decide_eq_false HDO.out.symm
        cases hd : s.data.toList.drop k with
        | nil => rfl
        | cons c t =>
          have hlt : k < s.size := by
            rw [size_len]
            have := congrArg List.length hd
            simp only [List.length_drop, List.length_cons] at this
            omega
          have hc : c ≠ 46 := fun e => hn ⟨hlt, by
            have h2 := drop_at _ k (show k < s.data.toList.length by rw [← size_len]; exact hlt)
            rw [hd] at h2
            have := (List.cons.inj h2).1
            rw [← this]; exact e⟩
          show n1 = if c = 46 then frR n1 100000 t else n1
          rw [if_neg hc])
      clear HDO
      go_wp2_with fail
      go_meet
      exact ⟨n1, by omega, rfl, HF, rfl⟩
    · have hd := of_decide_eq_true HDO.out.symm
      obtain ⟨hlt, h46⟩ := hd
      have HF := Lib.hid (show fracR n1 (s.data.toList.drop k) = frR n1 100000 (s.data.toList.drop (k + 1)) by
        rw [drop_at _ k (by rw [← size_len]; exact hlt), h46]
        exact fracR_dot n1 _)
      have hk1 : k + 1 ≤ s.size := by omega
      clear HDO h46
      go_wp2_with fail
      go_loop [3, 5, 6] (fun i n u => ∃ j z y : Nat, j ≤ s.size ∧ i = .int .i64 j ∧ n = .int .i64 z ∧ u = .int .i64 y ∧ Hid (frR z y (s.data.toList.drop j) = fracR n1 (s.data.toList.drop k)) ∧ y ≤ 100000 ∧ z + 10 * y ≤ 2000000000000000000) (fun i _ _ => s.size - (intOf i).toNat)
      case atStart => exact ⟨k + 1, n1, 100000, hk1, by go_num, rfl, rfl, Lib.hid HF.out.symm, by omega, by omega⟩
      case round =>
        obtain ⟨j, z, y, hj, rfl, rfl, rfl, hg, hy, hzy⟩ := hrel
        clear HF hlt hk1
        by_cases hlt : j < s.size
        · have HDr := Lib.hid (drop_at' s j hlt)
          have hx : s[j].toNat < 256 := UInt8.toNat_lt _
          cases hD : isDig s[j]
          · have HN := Lib.hid (show z = fracR n1 (s.data.toList.drop k) by
              have h := hg.out
              rw [HDr.out, frR_cons, if_neg (by rw [hD]; simp)] at h
              exact h)
            have HDD := Lib.hid hD
            clear hg HDr hD
            go_wp2_with fail
            refine (l01Digit_any s[j].toNat false HDD.out _).mono ?_
            rintro e w1 ⟨rfl, rfl⟩
            go_wp2_with fail
            go_meet
            exact ⟨z, by omega, rfl, HN, rfl⟩
          · have HN := Lib.hid (show frR (z + dval s[j] * y) (y / 10) (s.data.toList.drop (j + 1)) = fracR n1 (s.data.toList.drop k) by
              have h := hg.out
              rw [HDr.out, frR_cons, if_pos hD] at h
              exact h)
            have HDD := Lib.hid hD
            have hdd : 48 ≤ s[j].toNat ∧ s[j].toNat ≤ 57 := by unfold isDig at hD; simpa using hD
            obtain ⟨d1, d2⟩ := hdd
            obtain ⟨d, hd, hd9⟩ : ∃ d : Nat, dval s[j] = d ∧ d ≤ 9 := ⟨_, rfl, by unfold dval; omega⟩
            have hdv := Lib.hid (show (s[j].toNat : Int) - 48 = (d : Int) by unfold dval at hd; omega)
            have hp : d * y ≤ 9 * y := Nat.mul_le_mul_right _ hd9
            have HP := Lib.hid (show (d : Int) * (y : Int) = ((d * y : Nat) : Int) by rw [Int.natCast_mul])
            rw [hd] at HN
            generalize d * y = dy at *
            clear hg HDr hD hd
            go_wp2_with fail
            refine (l01Digit_any s[j].toNat true HDD.out _).mono ?_
            rintro e w1 ⟨rfl, rfl⟩
            have h1 := hdv.out
            have h2 := HP.out
            go_wp2_with fail
            go_round
            case rel => exact ⟨j + 1, z + dy, y / 10, by omega, by go_num, by go_num, by go_num, HN, by omega, by omega⟩
            case measure => simp [intOf]; omega
        · have HN := Lib.hid (show z = fracR n1 (s.data.toList.drop k) by
            have h := hg.out
            rw [List.drop_eq_nil_of_le (by rw [← size_len]; omega)] at h
            exact h)
          clear hg
          go_wp2_with fail
          go_meet
          exact ⟨z, by omega, rfl, HN, rfl⟩
  case rest =>
  obtain ⟨n2, hn2, rfl, HF, rfl⟩ := hcut
  have HT := tail n2 hn2 HF
  clear tail HF
  go_wp2_with fail
  refine (l00Min_any _ _ _).mono ?_
  rintro e w1 ⟨rfl, rfl⟩
  have HM := Lib.hid (show min (n2 : Int) 999999999999999999 = ((min n2 999999999999999999 : Nat) : Int) by omega)
  have hm2 : min n2 999999999999999999 ≤ 999999999999999999 := Nat.min_le_right _ _
  generalize min n2 999999999999999999 = n3 at *
  rw [HM.out]
  clear HM hn2
  cases ng
  · go_wp2_with fail
    go_ret
    exact ⟨by rw [HT.out]; rfl, rfl⟩
  · go_wp2_with fail
    go_ret
    exact ⟨by rw [HT.out]; rfl, rfl⟩
end
section
open Go.RowKit Go.Shelf
set_option linter.unusedVariables false
theorem conv_one (w : World) (b : Nat) (x : UInt8) (h : w.cell? ⟨b, 0, none⟩ = some (.int .u8 (x.toNat : Int))) : (convert 51 9 (.slice (some ⟨b, 0, none⟩) 1 1)).run Tryz.prog w = .ok (.string ⟨#[x]⟩) w := by
  have := run_convert_bytes_back w 51 9 5 ⟨b, 0, none⟩ 1 [x] Tryz.underlying51 Tryz.underlying5 Tryz.underlying9 (fun j hj => by
    have : j = 0 := by simpa using hj
    subst this
    exact h)
  exact this
theorem below_d {w w1 : World} (h : Below w.drew.heap.size w.drew w1) : Below w.heap.size w w1 := ⟨h.os, h.tape, h.output, h.size, h.block⟩
theorem below_da {w w1 : World} {o : Obj} (h : Below (w.drew.alloc o).heap.size (w.drew.alloc o) w1) : Below w.heap.size w w1 :=
  below_d (((Below.refl _ _).alloc (Nat.le_refl _) o).trans (h.mono (by simp)))
set_option maxHeartbeats 2000000 in
theorem l01Whole_any (n : Nat) : ∀ (w : World), n ≤ 9223372036854775807 → Calls Tryz.prog 77 #[.int .i64 (n : Int)] w (StrPost (wholeD n) w) := by
  induction n using Nat.strongRecOn with
  | _ n ih =>
    intro w hn
    by_cases h0 : n = 0
    · subst h0
      go_enter Tryz.func77, Tryz.ntmps77
      go_wp2_with fail
      go_ret
      exact ⟨⟨#[]⟩, by rw [wholeD_zero], rfl, Below.refl _ _⟩
    · have hq : n / 10 < n := by omega
      have ih' := ih (n / 10) hq
      have HW := Lib.hid (wholeD_pos h0)
      have e1 : (n : Int).tdiv 10 = ((n / 10 : Nat) : Int) := by rw [Int.tdiv_eq_ediv_of_nonneg (by omega)]; omega
      have e2 : (n : Int).tmod 10 = ((n % 10 : Nat) : Int) := by rw [Int.tmod_eq_emod_of_nonneg (by omega)]; omega
      have e3 : (n : Int) / 10 = ((n / 10 : Nat) : Int) := by omega
      have e4 : (n : Int) % 10 = ((n % 10 : Nat) : Int) := by omega
      have hq2 : n / 10 ≤ 922337203685477580 := by omega
      have hr : n % 10 < 10 := by omega
      have e0 : ((n : Int) == 0) = false := beq_eq_false_iff_ne.2 (by omega)
      clear ih hq
      generalize n / 10 = q at *
      generalize n % 10 = r at *
      obtain ⟨x, hx, HX⟩ : ∃ x : UInt8, (48 + (r : Int)) = (x.toNat : Int) ∧ Hid (x = UInt8.ofNat (48 + r)) := ⟨_, by rw [toNat_dig hr]; omega, Lib.hid rfl⟩
      have hx2 : x.toNat ≤ 255 := by have := UInt8.toNat_lt x; omega
      have e5 : IntKind.i64.wrap (x.toNat : Int) = (x.toNat : Int) := IntWalk.i64_in _ (by omega)
      have e7 : IntKind.i64.wrap (q : Int) = (q : Int) := IntWalk.i64_in _ (by omega)
      have e6 : IntKind.u8.wrap (x.toNat : Int) = (x.toNat : Int) := by
        show (x.toNat : Int) % 256 = _
        omega
      have hc := conv_one (x := x)
      go_enter Tryz.func77, Tryz.ntmps77
      go_wp2_with fail
      go_region_with ((go_at_call 77; refine (ih' _ (by omega)).mono ?_; rintro e w1 ⟨t, ht, rfl, hb⟩; have HB := Lib.hid hb; have HT := Lib.hid ht; have hq := fun (o : Nat) => hb.cell (p := ⟨w.heap.size, o, none⟩); have ts : t.size ≤ 1000 := (by have h1 := size_len t; rw [ht] at h1; have := wholeD_len_le (n := q) (k := 19) (by omega); omega); clear ht hb))
      all_goals
        go_wp2_with fail
        go_ret
        refine ⟨_, by rw [HW.out, app_list, HT.out, ← HX.out], rfl, ?_⟩
        first
        | exact (below_d HB.out).alloc (below_d HB.out).size _
        | exact below_da HB.out
end
section
open Go.RowKit Go.Shelf
set_option linter.unusedVariables false
def strOf : Value → ByteArray | .string s => s | _ => ⟨#[]⟩
theorem strip0_snoc (l : List UInt8) (c : UInt8) : strip0 (l ++ [c]) = if c = 48 then strip0 l else l ++ [c] := by
  unfold strip0
  rw [List.reverse_append, List.reverse_singleton, List.singleton_append, List.dropWhile_cons]
  by_cases h : c = 48
  · rw [if_pos (by simp [h]), if_pos h]
  · rw [if_neg (by simp [h]), if_neg h, List.reverse_cons, List.reverse_reverse]
theorem strip0_frac_ne {r : Nat} (h : r < 1000000) (h0 : 0 < r) : strip0 (fracD r) ≠ [] := by
  intro e
  obtain ⟨k, hk⟩ := strip0_spec (fracD r)
  rw [e, List.nil_append] at hk
  have := valF_fracD h
  rw [hk, valF_zeros] at this
  omega
theorem last_split (f : ByteArray) (h : 0 < f.size) : f.data.toList = (f.extract 0 (f.size - 1)).data.toList ++ [f[f.size - 1]] := by
  rw [extract_list, List.drop_zero]
  have hl : f.data.toList.length = f.size := (size_len f).symm
  have h1 : f.size - 1 < f.data.toList.length := by omega
  have h2 := List.take_succ_eq_append_getElem h1
  rw [show f.size - 1 + 1 = f.data.toList.length by omega, List.take_length] at h2
  exact h2
set_option maxHeartbeats 2000000 in
theorem l01TextP_any (m : Nat) (w : World) (hm : m ≤ 999999999999999999) : Calls Tryz.prog 59 #[.int .i64 (m : Int)] w (StrPost (bodyT m) w) := by
  have e1 : ¬ (m : Int) < 0 := by omega
  have e5 : (m : Int) / 1000000 = ((m / 1000000 : Nat) : Int) := by omega
  have e6 : (m : Int) % 1000000 = ((m % 1000000 : Nat) : Int) := by omega
  have hq : m / 1000000 ≤ 999999999999 := by omega
  have HR : m % 1000000 < 1000000 := by omega
  by_cases h0 : m = 0
  · subst h0
    go_enter Tryz.func59, Tryz.ntmps59
    go_wp2_with fail
    refine (l01Whole_any 0 w (by omega)).mono ?_
    rintro e w1 ⟨t, ht, rfl, hb1⟩
    rw [wholeD_zero] at ht
    obtain rfl : t = ⟨#[]⟩ := ba_ext ht
    clear ht
    go_wp2_with fail
    go_ret
    exact ⟨⟨#[48]⟩, rfl, rfl, hb1⟩
  · have HB := Lib.hid (show bodyT m = wholeD (m / 1000000) ++ (if m % 1000000 = 0 then [] else 46 :: strip0 (fracD (m % 1000000))) by unfold bodyT body; rw [if_neg h0])
    have HNE := Lib.hid (show m % 1000000 = 0 → wholeD (m / 1000000) ≠ [] by
      intro h
      rw [wholeD_pos (show m / 1000000 ≠ 0 by omega)]; simp)
    have hwl := wholeD_len_le (n := m / 1000000) (k := 12) (by omega)
    generalize m / 1000000 = q at *
    generalize m % 1000000 = r at *
    clear h0
    go_enter Tryz.func59, Tryz.ntmps59
    go_wp2_with fail
    refine (l01Whole_any q w (by omega)).mono ?_
    rintro e w1 ⟨t, ht, rfl, hb1⟩
    have HT := Lib.hid ht
    have ts : t.size ≤ 1000 := by have h1 := size_len t; rw [ht] at h1; omega
    clear ht hwl
    by_cases hr : r = 0
    · have HB2 := Lib.hid (show bodyT m = wholeD q by rw [HB.out, if_pos hr, List.append_nil])
      clear HB
      subst hr
      have hne : (t.toList == []) = false := by
        rw [ByteArray.toList_eq]
        exact beq_eq_false_iff_ne.2 (by rw [HT.out]; exact HNE.out rfl)
      have hne2 : t.toList.isEmpty = false := by
        rw [ByteArray.toList_eq]
        have := HNE.out rfl
        rw [← HT.out] at this
        cases hh : t.data.toList with
        | nil => exact absurd hh this
        | cons => rfl
      clear HNE
      go_wp2_with fail
      go_ret
      exact ⟨t, by rw [HT.out, HB2.out], rfl, hb1⟩
    · have hrp : 0 < r := by omega
      clear HNE
      have HB2 := Lib.hid (show bodyT m = wholeD q ++ 46 :: strip0 (fracD r) by rw [HB.out, if_neg hr])
      have hrl : (0 : Int) < (r : Int) := by omega
      have HSN := Lib.hid (strip0_frac_ne HR hrp)
      clear hr HB e1 hm hrp
      go_wp2_with fail
      have hwl := l01Whole_any (1000000 + r) w1 (by omega)
      rw [show ((1000000 + r : Nat) : Int) = 1000000 + (r : Int) by omega] at hwl
      refine hwl.mono ?_
      rintro e w2 ⟨f0, hf0, rfl, hb2⟩
      have HF := Lib.hid (show f0.data.toList = 49 :: fracD r by rw [hf0]; exact wholeD_head HR)
      have fs := Lib.hid (show f0.size = 7 by rw [size_len f0, HF.out, List.length_cons, fracD_length HR])
      have fs1 : 1 ≤ f0.size := by have := fs.out; omega
      have fs2 : f0.size ≤ 1000 := by have := fs.out; omega
      clear hf0 hwl
      have hb3 : Below w.heap.size w w2 := hb1.trans (hb2.mono (by have := hb1.size; omega))
      go_wp2_with fail
      go_loop [5] (fun v => ∃ f : ByteArray, v = .string f ∧ f.size ≤ 1000 ∧ Hid (strip0 f.data.toList = strip0 (fracD r))) (fun v => (strOf v).size)
      case atStart => exact ⟨_, rfl, by rw [ByteArray.size_extract]; omega, Lib.hid (by rw [extract_list, HF.out, List.take_of_length_le (by have := fs.out; rw [List.length_cons, fracD_length HR]; omega)]; rfl)⟩
      case round =>
        obtain ⟨f, rfl, hfs, HS⟩ := hrel
        have hpos : 0 < f.size := by
          rcases Nat.eq_zero_or_pos f.size with h | h
          · exfalso
            have h2 : f.data.toList = [] := List.length_eq_zero_iff.1 (by rw [← size_len]; exact h)
            have h3 := HS.out
            rw [h2] at h3
            exact HSN.out h3.symm
          · exact h
        have q1 : (0 : Int) ≤ (f.size : Int) - 1 := by omega
        have q2 : ((f.size : Int) - 1).toNat = f.size - 1 := by omega
        have q3 : f.size - 1 < f.size := by omega
        have HL := Lib.hid (last_split f hpos)
        have hx : f[f.size - 1].toNat < 256 := UInt8.toNat_lt _
        by_cases h48 : f[f.size - 1] = 48
        · have t1 : ((f[f.size - 1].toNat : Int) == 48) = true := beq_iff_eq.2 (by rw [h48]; rfl)
          have HN := Lib.hid (show strip0 (f.extract 0 (f.size - 1)).data.toList = strip0 (fracD r) by
            rw [← HS.out]; conv => rhs; rw [HL.out, strip0_snoc, if_pos h48])
          clear h48
          go_wp2_with fail
          go_round
          case rel => exact ⟨_, rfl, by rw [ByteArray.size_extract]; omega, HN⟩
          case measure => simp [strOf]; omega
        · have t1 : ((f[f.size - 1].toNat : Int) == 48) = false := beq_eq_false_iff_ne.2 (fun e => h48 (UInt8.toNat_inj.1 (by show f[f.size - 1].toNat = 48; omega)))
          have HN := Lib.hid (show f.data.toList = strip0 (fracD r) by
            rw [← HS.out]; rw [HL.out, strip0_snoc, if_neg h48])
          clear h48
          have HZ := Lib.hid (show (t ++ (({ data := #[46] } : ByteArray) ++ f)).data.toList = bodyT m by rw [app_list, app_list, HT.out, HN.out, HB2.out]; rfl)
          have HZN := Lib.hid (show ¬ (t ++ (({ data := #[46] } : ByteArray) ++ f)).data.toList = [] by rw [app_list, app_list]; simp)
          have hz1 : ((t ++ (({ data := #[46] } : ByteArray) ++ f)).toList == []) = false := by
            rw [ByteArray.toList_eq]; exact beq_eq_false_iff_ne.2 HZN.out
          have hz2 : (t ++ (({ data := #[46] } : ByteArray) ++ f)).toList.isEmpty = false := by
            rw [ByteArray.toList_eq]
            cases hh : (t ++ (({ data := #[46] } : ByteArray) ++ f)).data.toList with
            | nil => exact absurd hh HZN.out
            | cons => rfl
          go_wp2_with fail
          go_ret
          exact ⟨_, HZ.out, rfl, hb3⟩
theorem l01Text_any (n : Int) (w : World) (hn : IsNum n) : Calls Tryz.prog 59 #[.int .i64 n] w (StrPost (textOf n) w) := by
  obtain ⟨h1, h2⟩ := hn
  by_cases h : n < 0
  · obtain ⟨m, rfl⟩ : ∃ m : Nat, n = -(m : Int) := ⟨n.natAbs, by omega⟩
    have HT := Lib.hid (show textOf (-(m : Int)) = 45 :: bodyT m by unfold textOf; rw [if_pos h, show (-(m : Int)).natAbs = m by omega])
    have HL := Lib.hid (show (bodyT m).length ≤ 19 by
      have := textOf_len (n := -(m : Int)) ⟨h1, h2⟩
      rw [HT.out, List.length_cons] at this
      omega)
    have e2 : - -(m : Int) = (m : Int) := by omega
    go_enter Tryz.func59, Tryz.ntmps59
    go_wp2_with fail
    refine (l01TextP_any m w (by omega)).mono ?_
    rintro e w1 ⟨t, ht, rfl, hb1⟩
    have ts : t.size ≤ 1000 := by have h1 := size_len t; rw [ht] at h1; have := HL.out; omega
    have HT2 := Lib.hid ht
    clear ht
    go_wp2_with fail
    go_ret
    exact ⟨_, by rw [HT.out, app_list, HT2.out]; rfl, rfl, hb1⟩
  · obtain ⟨m, rfl⟩ : ∃ m : Nat, n = (m : Int) := ⟨n.natAbs, by omega⟩
    have HT := Lib.hid (show textOf (m : Int) = bodyT m by unfold textOf; rw [if_neg h, show (m : Int).natAbs = m by omega])
    rw [HT.out]
    exact l01TextP_any m w (by omega)
set_option maxHeartbeats 1000000 in
theorem l01Canon_any (s : ByteArray) (w : World) (hs : s.size ≤ 9223372036854775000) : Calls Tryz.prog 78 #[.string s] w (BoolPost (canonB s.data.toList) w) := by
  have HC := Lib.hid (canonB_spec s.data.toList)
  by_cases h0 : s.data.toList = []
  · obtain rfl : s = ⟨#[]⟩ := ba_ext h0
    clear h0
    go_enter Tryz.func78, Tryz.ntmps78
    go_wp2_with fail
    go_ret
    exact ⟨by rw [HC.out]; rfl, Below.refl _ _⟩
  · have hz : s.toList.isEmpty = false := by
      rw [isEmpty_toList]
      cases hh : s.data.toList with
      | nil => exact absurd hh h0
      | cons => rfl
    have hz1 : (s.toList == []) = false := by rw [ByteArray.toList_eq]; exact beq_eq_false_iff_ne.2 h0
    have HZ := Lib.hid (show s.data.toList.isEmpty = false by rw [← isEmpty_toList]; exact hz)
    clear h0
    have hl := Lib.hid (size_len s)
    by_cases h21 : s.size ≤ 21
    · have HC2 := Lib.hid (show canonB s.data.toList = decide (textOf (numOf s.data.toList) = s.data.toList) by
        rw [HC.out, HZ.out, decide_eq_true (show s.data.toList.length ≤ 21 by have := hl.out; omega)]; rfl)
      have d21 : decide ((s.size : Int) ≤ 21) = true := decide_eq_true (by omega)
      clear HC
      go_enter Tryz.func78, Tryz.ntmps78
      go_wp2_with fail
      refine (l01Of_any s w hs).mono ?_
      rintro e w1 ⟨rfl, rfl⟩
      have hin : IsNum (numOf s.data.toList) := numOf_range _
      generalize numOf s.data.toList = k at *
      go_wp2_with fail
      refine (l01Text_any k w hin).mono ?_
      rintro e w2 ⟨t, ht, rfl, hb1⟩
      have HT := Lib.hid ht
      clear ht
      by_cases heq : t = s
      · have HV := Lib.hid (show canonB s.data.toList = true by rw [HC2.out, ← HT.out, heq]; exact decide_eq_true rfl)
        subst heq
        go_wp2_with fail
        go_ret
        exact ⟨by rw [HV.out]; simp, hb1⟩
      · have HV := Lib.hid (show canonB s.data.toList = false by rw [HC2.out, ← HT.out]; exact decide_eq_false (fun e => heq (ba_ext e)))
        have hq : (t.toList == s.toList) = false := by rw [toList_beq']; exact decide_eq_false heq
        go_wp2_with fail
        go_ret
        exact ⟨by rw [HV.out]; rfl, hb1⟩
    · have HV := Lib.hid (show canonB s.data.toList = false by
        rw [HC.out, decide_eq_false (show ¬ s.data.toList.length ≤ 21 by have := hl.out; omega), Bool.false_and, Bool.and_false])
      have d21 : decide ((s.size : Int) ≤ 21) = false := decide_eq_false (by omega)
      clear HC
      go_enter Tryz.func78, Tryz.ntmps78
      go_wp2_with fail
      go_ret
      exact ⟨by rw [HV.out]; rfl, Below.refl _ _⟩
set_option maxHeartbeats 1000000 in
theorem l02Before_any (a b : ByteArray) (w : World) (ha : a.size ≤ 9223372036854775000) (hb : b.size ≤ 9223372036854775000) : Calls Tryz.prog 99 #[.string a, .string b] w (BoolPost (beforeB a.data.toList b.data.toList) w) := by
  go_enter Tryz.func99, Tryz.ntmps99
  go_wp2_with fail
  refine (l01Canon_any a w ha).mono ?_
  rintro e w1 ⟨rfl, hb1⟩
  go_wp2_with fail
  refine (l01Canon_any b w1 hb).mono ?_
  rintro e w2 ⟨rfl, hb2⟩
  have hw2 : Below w.heap.size w w2 := hb1.trans (hb2.mono (by have := hb1.size; omega))
  have HL := Lib.hid (less_eq a b)
  cases hA : canonB a.data.toList <;> cases hB : canonB b.data.toList
  · have HV := Lib.hid (show beforeB a.data.toList b.data.toList = Op.bytesLess a.toList b.toList by unfold beforeB; rw [hA, hB, HL.out]; rfl)
    clear hA hB
    go_wp2_with fail
    go_ret
    exact ⟨by rw [HV.out]; rfl, hw2⟩
  · have HV := Lib.hid (show beforeB a.data.toList b.data.toList = false by unfold beforeB; rw [hA, hB]; rfl)
    clear hA hB
    go_wp2_with fail
    go_ret
    exact ⟨by rw [HV.out]; rfl, hw2⟩
  · have HV := Lib.hid (show beforeB a.data.toList b.data.toList = true by unfold beforeB; rw [hA, hB]; rfl)
    clear hA hB
    go_wp2_with fail
    go_ret
    exact ⟨by rw [HV.out]; rfl, hw2⟩
  · have HV := Lib.hid (show beforeB a.data.toList b.data.toList = decide (numOf a.data.toList < numOf b.data.toList) by unfold beforeB; rw [hA, hB]; rfl)
    clear hA hB
    go_wp2_with fail
    refine (l01Of_any a w2 ha).mono ?_
    rintro e w3 ⟨rfl, rfl⟩
    go_wp2_with fail
    refine (l01Of_any b w2 hb).mono ?_
    rintro e w3 ⟨rfl, rfl⟩
    generalize numOf a.data.toList = x at *
    generalize numOf b.data.toList = y at *
    go_wp2_with fail
    go_ret
    exact ⟨by rw [HV.out]; rfl, hw2⟩
end
section
open Go.RowKit
set_option linter.unusedVariables false
def numIn (n : Int) : Bool := decide (-999999999999999999 ≤ n) && decide (n ≤ 999999999999999999)
def E_l01Text : Entry := fun ivs => match ivs with | [.cv (.pv (.int .i64 n))] => [(numIn n, cS (bs (textOf n)), [])] | _ => []
end
section
set_option linter.unusedVariables false
set_option maxRecDepth 100000
end
section
open Go.RowKit
set_option linter.unusedVariables false
set_option linter.unusedSimpArgs false
set_option maxRecDepth 100000
instance : Inhabited ByteArray := ⟨⟨#[]⟩⟩
theorem numIn_ok {n : Int} (h : numIn n = true) : -999999999999999999 ≤ n ∧ n ≤ 999999999999999999 := by
  unfold numIn at h
  rw [Bool.and_eq_true, decide_eq_true_eq, decide_eq_true_eq] at h
  exact h
theorem numIn_mk {n : Int} (h1 : -999999999999999999 ≤ n) (h2 : n ≤ 999999999999999999) : numIn n = true := by
  unfold numIn
  rw [dT h1, dT h2]
  rfl
theorem ok_l01Text : EntryOk Tryz.prog 59 E_l01Text := ⟨⟨_, Tryz.func59, by kernel_rfl, by kernel_rfl⟩, fun ivs res bxs h => by
  unfold E_l01Text at h
  split at h
  · rename_i n
    obtain ⟨hc, he⟩ := pick1 h
    cases he
    refine contract_flat (ps := [.int .i64 n]) (v := .string (bs (textOf n))) rfl fun w com vals hv _ => ?_
    obtain ⟨v, vs, rfl, hv1, hn⟩ := hv.of_cons
    rw [hn.of_nil]
    cases hv1
    refine (l01Text_any n w (numIn_ok hc)).mono ?_
    rintro e w' ⟨r, hr, rfl, hb⟩
    exact ⟨by rw [← hr, bs_self], hb⟩
  · cases h⟩
end
section
open Go.RowKit
set_option linter.unusedVariables false
section
variable {w : World} {com : Nat → Nat} {loc : Nat → Option Value}
end
end
section
open Go.RowKit
set_option linter.unusedVariables false
def CV.frzM : CV → CV
  | .lst _ _ n l _ => .pv (.sl n l)
  | .dls _ _ n l => .pv (.sl n l)
  | .pv .nils => .pv (.sl 0 [])
  | c => c
def IV.frzM1 : IV → IV
  | .cv c => .cv c.frzM
  | .agg l => .agg (l.map CV.frzM)
  | i => i
def IV.frzM : IV → IV
  | .tup is => .tup (is.map IV.frzM1)
  | i => i.frzM1
def IV.noBox : IV → Bool
  | .tup is => is.all fun i => !i.isBox
  | i => !i.isBox
def comR (w : World) (com : Nat → Nat) (bs : List Nat) : Nat → Nat := fun b => if b ∈ bs then com b + comTop w b else com b
section
variable {w : World} {com : Nat → Nat} {loc : Nat → Option Value}
theorem ext_comR (w : World) (com : Nat → Nat) (bs : List Nat) : Ext w com w (comR w com bs) := ⟨fun b => by
  unfold comR
  split
  · exact Nat.le_add_right _ _
  · exact Nat.le_refl _, fun _ _ _ => rfl⟩
theorem LRep.all {v : Value} {k : Nat} {e : TypeId} {n : Nat} {l : List PV} {mt : Bool} {xs : List Value} (h : LRep w com v k e n l mt xs) {bs : List Nat} (hb : ∀ b ∈ v.ownBlock.toList, b ∈ bs) : PRep w (comR w com bs) v (.sl n l) := by
  have hlen := h.len
  have hx := ext_comR w com bs
  rcases h.own.2 with ⟨rfl, rfl⟩ | ⟨g, cap, cur, rfl, hg0, hg, hnc, hcm, hcs, htake⟩
  · have : l = [] := List.length_eq_zero_iff.1 (by simpa using hlen)
    subst this
    exact .sl0 none 0
  · have hc : ∀ i v, xs[i]? = some v → w.cell? ⟨g, 0 + i, none⟩ = some v := fun i u hu => by
      have hc := h.own.cells (g := g) rfl i u hu
      have ea : (⟨g, 0, none⟩ : Addr).add i = ⟨g, 0 + i, none⟩ := by unfold Addr.add; split <;> simp_all
      rwa [ea] at hc
    refine .sl g 0 n cap xs l hnc h.reps.1 h.one (fun i hi => ?_) hc (h.reps.mono hx).2
    have hlx := h.reps.1
    have := comTop_at (hc i xs[i] (List.getElem?_eq_getElem (by omega)))
    unfold comR
    rw [if_pos (hb g (by simp [Value.ownBlock]))]
    omega
theorem ext_comDR {w : World} {com : Nat → Nat} {bs B : List Nat} (hb : ∀ b ∈ bs, b ∈ B) : Ext w (comD w com bs) w (comR w com B) := ⟨fun b => by
  by_cases h : b ∈ bs
  · rw [comD_in h]
    unfold comR
    rw [if_pos (hb b h)]
    have : rowN w b ≤ comTop w b := by
      unfold rowN comTop
      cases w.heap[b]? with
      | none => exact Nat.le_refl _
      | some o => cases o <;> first | exact Nat.le_succ _ | exact Nat.le_refl _
    omega
  · rw [comD_out h]
    exact (ext_comR w com B).up b, fun _ _ _ => rfl⟩
theorem CRep.frzM {v : Value} {c : CV} {bs : List Nat} (h : CRep w com loc v c bs) {B : List Nat} (hb : ∀ b ∈ bs, b ∈ B) : CRep w (comR w com B) loc v c.frzM [] := by
  have hx := ext_comR w com B
  cases h with
  | bad => exact .bad v
  | pv p h =>
    cases p with
    | nils =>
      cases h
      exact .pv _ _ (.sl0 none 0)
    | _ => exact .pv _ _ (h.mono hx)
  | al d h => exact .al v d h
  | lst k e n l mt xs h => exact .pv _ _ (h.all hb)
  | @dls k e n l _ xs b1 h => exact .pv _ _ (h.still.prep.mono (ext_comDR hb))
theorem CReps.frzM {vs : List Value} {cs : List CV} {bs : List Nat} (h : CReps w com loc vs cs bs) {B : List Nat} (hb : ∀ b ∈ bs, b ∈ B) : CReps w (comR w com B) loc vs (cs.map CV.frzM) [] := by
  induction h with
  | nil => exact .nil
  | cons h h1 k ih => exact .cons (h.frzM fun b hx => hb b (List.mem_append.2 (.inl hx))) h1 (ih fun b hx => hb b (List.mem_append.2 (.inr hx)))
theorem IRep.frzM {v : Value} {i : IV} {bs : List Nat} (h : IRep w com v i bs) (hn : i.isBox = false) {B : List Nat} (hb : ∀ b ∈ bs, b ∈ B) : IRep w (comR w com B) v i.frzM1 [] := by
  cases h with
  | cv v c bs h => exact .cv _ _ _ (h.frzM hb)
  | agg cs l bs h => exact .agg _ _ _ (h.frzM hb)
  | box b o cur t l bs hb hc h => cases hn
  | lk => cases hn
  | lkd => cases hn
theorem IReps.frzM {vs : List Value} {is : List IV} {bs : List Nat} (h : IReps w com vs is bs) (hn : (is.all fun i => !i.isBox) = true) {B : List Nat} (hb : ∀ b ∈ bs, b ∈ B) : IReps w (comR w com B) vs (is.map IV.frzM1) [] := by
  induction h with
  | nil => exact .nil
  | cons h k ih =>
    rw [List.all_cons, Bool.and_eq_true] at hn
    exact .cons (h.frzM (by simpa using hn.1) fun b hx => hb b (List.mem_append.2 (.inl hx))) (ih hn.2 fun b hx => hb b (List.mem_append.2 (.inr hx)))
theorem RRep.frzM {v : Value} {i : IV} {bs : List Nat} (h : RRep w com v i bs) (hn : i.noBox = true) {B : List Nat} (hb : ∀ b ∈ bs, b ∈ B) : RRep w (comR w com B) v i.frzM [] := by
  cases h with
  | one v i bs h =>
    have hh := h
    cases h with
    | cv v c bs h => exact .one _ _ _ (hh.frzM rfl hb)
    | agg cs l bs h => exact .one _ _ _ (hh.frzM rfl hb)
    | box b o cur t l bs hb hc h => cases hn
    | lk => cases hn
    | lkd => cases hn
  | tup vs is bs h => exact .tup _ _ _ (h.frzM hn hb)
theorem BRep.keepM {com' : Nat → Nat} {vs : List Value} {is : List IV} {bx : List (List CV)} {bs : List Nat} (h : BRep w com vs is bx bs) (x : Ext w com w com') (hb : ∀ b ∈ bs, com' b = com b) : BRep w com' vs is bx bs := by
  induction h with
  | nil => exact .nil
  | box b o cur t l l' bs vs is bx bs' h1 hc h k ih =>
    exact .box b o cur t l l' bs vs is bx bs' h1 ((hb b (by simp)).trans hc) (h.keep x (fun _ _ h => h) fun b' hx => ⟨rfl, hb b' (by simp [hx])⟩) (ih fun b' hx => hb b' (by simp [hx]))
  | lk g c1 v c2 pre k e n l l' post xs hl h vs is bx bs' k' ih =>
    exact .lk g c1 v c2 pre k e n l l' post xs hl (h.keep x fun b hv => ⟨rfl, hb b (by simp [hv])⟩) vs is bx bs' (ih fun b' hx => hb b' (by simp [hx]))
  | lkd g c1 v c2 pre k e e2 n l l' post b0 xs b1 hl h vs is bx bs' k' ih =>
    exact .lkd g c1 v c2 pre k e e2 n l l' post b0 xs b1 hl (h.keep x fun b hv => ⟨rfl, hb b (by simp [hv])⟩) vs is bx bs' (ih fun b' hx => hb b' (by simp [hx]))
  | other v i vs is bx bs hi k ih => exact .other v i vs is bx bs hi (ih hb)
theorem CReps.blkM {vs : List Value} {cs : List CV} {bs : List Nat} (h : CReps w com loc vs cs bs) : ∀ b ∈ bs, b < w.heap.size := h.lt
theorem IRep.blkM {v : Value} {i : IV} {bs : List Nat} (h : IRep w com v i bs) : ∀ b ∈ bs, b < w.heap.size := by
  have := (IReps.cons h .nil).blk
  rwa [List.append_nil] at this
theorem RRep.blkM {v : Value} {i : IV} {bs : List Nat} (h : RRep w com v i bs) : ∀ b ∈ bs, b < w.heap.size := by
  cases h with
  | one v i bs h => exact h.blkM
  | tup vs is bs h => exact h.blk
end
theorem Contract.frzM {P : Program} {g : FuncId} {ivs : List IV} {res : IV} {bxs : List (List CV)} (h : Contract P g ivs res bxs) (hnb : res.noBox = true) : Contract P g ivs res.frzM bxs := by
  intro w com vals bs hI hnd hfresh hgl
  refine (h w com vals bs hI hnd hfresh hgl).mono ?_
  rintro e w' ⟨v, com', rbs, bbs, he, hx, hf, hc, hk, hr, hb, hn, hm⟩
  obtain ⟨hn1, hn2, hn3⟩ := List.nodup_append.1 hn
  have hx2 := ext_comR w' com' rbs
  refine ⟨v, comR w' com' rbs, [], bbs, he, hx.trans hx2, hf, fun b hs => ?_, fun b hlt hnb' => ?_, hr.frzM hnb fun b h => h, hb.keepM hx2 fun b hb' => ?_, hn2, fun b hb' => hm b (List.mem_append.2 (.inr (by simpa using hb')))⟩
  · unfold comR
    rw [if_neg (fun h => absurd (hr.blkM b h) (by omega))]
    exact hc b hs
  · unfold comR
    rw [if_neg (fun h => ?_)]
    · exact hk b hlt hnb'
    · rcases hm b (List.mem_append.2 (.inl h)) with h | h
      · exact hnb' h
      · omega
  · unfold comR
    rw [if_neg (fun h => hn3 b h b hb' rfl)]
theorem entry_ofM {P : Program} (hmix : P.follows .mixedOrders = true) {tab : List (FuncId × Entry)} (hT : EntriesOk P tab) {lp : List (Nat × List Nat × List Nat)} {LO : LoopT} {g : FuncId} {fn : Func} (hf : FnAt P g fn) (h0 : Nat.blt 0 fn.ntmps = true) {E : Entry}
    (h : ∀ ivs res bxs, pickA (E ivs) = some (res, bxs) → (∀ b ∈ loopsIn (bodyOf fn), LoopOk P (tabL tab) (OL lp) fn.ntmps (pbOf (boxSlots 0 ivs)) LO b) ∧ ∃ R, evB brC P tab lp LO fn ivs = some (R, bxs) ∧ R.noBox = true ∧ R.frzM = res) : EntryOk P g E :=
  ⟨⟨_, hf⟩, fun ivs res bxs he => by
    obtain ⟨h1, R, h2, h3, rfl⟩ := h ivs res bxs he
    exact (fun_okB hmix (tabL_ok hT) hf h0 rfl h1 h2).frzM h3⟩
end
section
open Go.RowKit
set_option linter.unusedVariables false
noncomputable def E_NumText : Entry := fun ivs => match ivs with | [.cv (.pv (.int .i64 n))] => [(numIn n, cS (bs (textOf n)), [])] | _ => []
noncomputable def E_PutSubs : Entry := fun ivs => match ivs with | [.cv (.pv p)] => [(isL p, cS (bs (putL (asL p))), [])] | _ => []
noncomputable def E_getString : Entry := fun ivs => match ivs with
  | [.cv (.pv (.str s))] => [((unesc s.data.toList).isSome && decide (s.size ≤ 2000), .tup [cS (bs ((unesc s.data.toList).getD ([], [])).1), cS (bs ((unesc s.data.toList).getD ([], [])).2), cB true], [])]
  | _ => []
def beV (l : List UInt8) : Nat := l.foldl (fun n c => n * 256 + c.toNat) 0
abbrev lp_getNum : List (Nat × List Nat × List Nat) := [(5, [0, 5, 10], [0, 5])]
def LO_getNum : LoopT := fun _ ls => match ls with
  | [(.pv (.str s), none), (.pv (.int .u64 x), none), (.pv (.int .i64 i), none)] =>
    [(decide (8 ≤ s.size) && (x == 0) && (i == 0), .exit 0, [aS s, (.pv (.int .u64 (beV (s.data.toList.take 8))), none)])]
  | _ => []
noncomputable def decL (l : List UInt8) : List ByteArray := @Classical.epsilon (List ByteArray) ⟨[]⟩ fun xs => l = encL xs
def isEnc (l : List UInt8) : Prop := ∃ xs, l = encL xs ∧ subsB xs = true
end
section
set_option linter.unusedVariables false
set_option maxRecDepth 100000
end
section
open Go.RowKit
set_option linter.unusedVariables false
set_option linter.unusedSimpArgs false
set_option maxRecDepth 100000
theorem maxW_gl {w : World} {com : Nat → Nat} (h : Gl w com) : MaxLW w := by
  obtain ⟨m, h1, _⟩ := h.1
  exact ⟨m, h1⟩
theorem ok_NumText : EntryOk Tryz.prog 65 E_NumText := ⟨⟨_, Tryz.func65, by kernel_rfl, by kernel_rfl⟩, fun ivs res bxs h => by
  unfold E_NumText at h
  split at h
  · rename_i n
    obtain ⟨hc, he⟩ := pick1 h
    cases he
    refine contract_flatG (ps := [.int .i64 n]) (v := .string (bs (textOf n))) rfl fun w com vals hv _ hgl => ?_
    obtain ⟨v, vs, rfl, hv1, hn⟩ := hv.of_cons
    rw [hn.of_nil]
    cases hv1
    refine (NumText_any n w (numIn_ok hc) (tab_gl hgl)).mono ?_
    rintro e w' ⟨r, hr, rfl, hb⟩
    exact ⟨by rw [← hr, bs_self], hb⟩
  · cases h⟩
theorem ok_PutSubs : EntryOk Tryz.prog 49 E_PutSubs := ⟨⟨_, Tryz.func49, by kernel_rfl, by kernel_rfl⟩, fun ivs res bxs h => by
  unfold E_PutSubs at h
  split at h
  · rename_i p
    obtain ⟨hc, he⟩ := pick1 h
    cases he
    obtain ⟨xs, rfl, hx⟩ := isL_inv hc
    have e4 : asL (pL xs) = xs := asL_mk xs
    rw [e4]
    refine contract_flatG (ps := [pL xs]) (v := .string (bs (putL xs))) rfl fun w com vals hv hfr hgl => ?_
    have hSub : Calls Tryz.prog 48 vals.toArray w fun e w' => e = .returned (.bool (subsB xs)) ∧ Below w.heap.size w w' := by
      have hk := ok_ISubsOk.2 [cP (pL xs)] (cB (subsB xs)) [] (by
        unfold E_ISubsOk
        dsimp only [pickA]
        rw [hc, e4]
        rfl)
      refine (Contract.plain (ps := [pL xs]) hk hv hfr hgl).mono ?_
      rintro e w' ⟨v, com', rfl, hp, _, _, _, hb⟩
      cases hp
      exact ⟨rfl, hb⟩
    obtain ⟨v, vs, rfl, hv1, hn⟩ := hv.of_cons
    rw [hn.of_nil] at hSub ⊢
    have fin : ∀ l : List UInt8, l = putL xs → Calls Tryz.prog 49 #[v] w (StrPost l w) → Calls Tryz.prog 49 [v].toArray w fun e w' => e = .returned (.string (bs (putL xs))) ∧ Below w.heap.size w w' := fun l hl h => by
      refine h.mono ?_
      rintro e w' ⟨r, hr, rfl, hb⟩
      exact ⟨by rw [← hl, ← hr, bs_self], hb⟩
    cases hB : subsB xs with
    | false =>
      rw [hB] at hSub
      exact fin [] (by unfold putL; rw [hB]; rfl) (PutSubs_no v w hSub)
    | true =>
      rw [hB] at hSub
      have hE : putL xs = encL xs := by unfold putL; rw [if_pos hB]
      cases xs with
      | nil =>
        cases hv1 with
        | sl0 a c => exact fin [] (by rw [hE]; rfl) (PutSubs_nil a c w hSub)
        | sl b off n cap cs l hnc hl h1 hcm hm he => exact fin [] (by rw [hE]; rfl) (PutSubs_nil _ cap w hSub)
      | cons y ys =>
        cases hv1 with
        | sl b off _ cap cs _ hnc hl h1 hcm hm he =>
          have hcell : ∀ j (h : j < (y :: ys).length), w.cell? ⟨b, off + j, none⟩ = some (.string (y :: ys)[j]) := fun j h => by
            have hlen : cs.length = (y :: ys).length := by rw [hl, List.length_map]
            have hj : j < cs.length := by rw [hlen]; exact h
            have hj' : j < ((y :: ys).map PV.str).length := by rw [List.length_map]; exact h
            have hp := he j hj hj'
            rw [List.getElem_map] at hp
            have hc := hm j cs[j] (List.getElem?_eq_getElem hj)
            rw [hc]
            generalize cs[j] = u at hp
            cases hp
            rfl
          have hb0 : b < w.heap.size := by
            rcases Nat.lt_or_ge b w.heap.size with h | h
            · exact h
            · have := hcm 0 (by simp)
              rw [hfr b h] at this
              exact absurd this (Nat.not_lt_zero _)
          exact fin (encL (y :: ys)) hE.symm (PutSubs_some (y :: ys) b off cap w hcell hB hb0 hSub (tab_gl hgl) (maxW_gl hgl))
  · cases h⟩
theorem ok_getString : EntryOk Tryz.prog 47 E_getString := ⟨⟨_, Tryz.func47, by kernel_rfl, by kernel_rfl⟩, fun ivs res bxs h => by
  unfold E_getString at h
  split at h
  · rename_i s
    obtain ⟨hc, he⟩ := pick1 h
    cases he
    rw [Bool.and_eq_true, decide_eq_true_eq] at hc
    obtain ⟨⟨T, R⟩, hu⟩ := Option.isSome_iff_exists.1 hc.1
    rw [hu]
    intro w com vals bs' hI hnd hfresh hgl
    obtain ⟨hp, rfl⟩ := ivs_inv (ps := [.str s]) hI
    obtain ⟨v, vs, rfl, hv1, hn⟩ := hp.of_cons
    rw [hn.of_nil]
    cases hv1
    refine (getString_any s w T R hu hc.2).mono ?_
    rintro e w' ⟨⟨x, r, hx, hr, rfl⟩, hb⟩
    have ex : x = bs T := by rw [← hx, bs_self]
    have er : r = bs R := by rw [← hr, bs_self]
    subst ex
    subst er
    refine ⟨_, com, [], [], rfl, ⟨fun _ => Nat.le_refl _, fun b i hi => ?_⟩, ⟨hb.os, hb.tape, hb.output, hb.size, fun b hlt _ => hb.block b hlt⟩, fun b h => hfresh b (Nat.le_trans hb.size h), fun _ _ _ => rfl, ?_, .other _ _ _ _ _ _ rfl .nil, List.nodup_nil, fun b hb => by cases hb⟩
    · have hlt : b < w.heap.size := by
        rcases Nat.lt_or_ge b w.heap.size with h | h
        · exact h
        · rw [hfresh b h] at hi; exact absurd hi (Nat.not_lt_zero _)
      exact contract_flatG.cell_of_block (hb.block b hlt)
    · exact .tup [.string (bs T), .string (bs R), .bool true] [cS (bs T), cS (bs R), cB true] [] (.cons (b1 := []) (.cv _ _ _ (.pv _ _ (.str _))) (.cons (b1 := []) (.cv _ _ _ (.pv _ _ (.str _))) (.cons (b1 := []) (.cv _ _ _ (.pv _ _ (.bool _))) .nil)))
  · cases h⟩
theorem beV_snoc (l : List UInt8) (c : UInt8) : beV (l ++ [c]) = beV l * 256 + c.toNat := by unfold beV; rw [List.foldl_append]; rfl
theorem beV_lt (l : List UInt8) : ∀ n, l.length = n → beV l < 256 ^ n := by
  intro n
  induction n generalizing l with
  | zero => intro h; rw [List.length_eq_zero_iff.1 h]; decide
  | succ n ih =>
    intro h
    have hne : l ≠ [] := fun e => by rw [e] at h; cases h
    obtain ⟨m, c, rfl⟩ : ∃ m c, l = m ++ [c] := ⟨l.dropLast, l.getLast hne, (List.dropLast_concat_getLast hne).symm⟩
    rw [List.length_append, List.length_singleton] at h
    have := ih m (by omega)
    have hc := UInt8.toNat_lt c
    rw [beV_snoc, Nat.pow_succ]
    omega
theorem beV_beK : ∀ (k n a : Nat), (beK k n).foldl (fun n c => n * 256 + c.toNat) a = a * 256 ^ k + n % 256 ^ k
  | 0, n, a => by
    show a = _
    rw [Nat.pow_zero, Nat.mul_one, Nat.mod_one]
    rfl
  | k + 1, n, a => by
    unfold beK
    rw [List.foldl_cons, beV_beK k n, UInt8.toNat_ofNat_of_lt' (by simpa using Nat.mod_lt (n / 256 ^ k) (by decide : 0 < 256)), Nat.pow_succ, Nat.mod_mul, Nat.add_mul, Nat.mul_assoc, Nat.mul_comm 256 (256 ^ k), Nat.mul_comm (n / 256 ^ k % 256)]
    omega
theorem encL_inj {xs ys : List ByteArray} (h : encL xs = encL ys) : xs = ys := by
  have h1 := encL_lt xs ys
  have h2 := encL_lt ys xs
  rw [h, byteLt_irrefl] at h1 h2
  apply Classical.byContradiction
  intro hne
  have tot : ∀ {x y : List ByteArray}, x ≠ y → subsLt x y = true ∨ subsLt y x = true := by
    intro x
    induction x with
    | nil => intro y hn; cases y with
      | nil => exact absurd rfl hn
      | cons b y => exact .inl rfl
    | cons a x ih => intro y hn; cases y with
      | nil => exact .inr rfl
      | cons b y =>
        unfold subsLt
        by_cases hab : a = b
        · subst hab
          rw [if_pos (sEq_self a), if_pos (sEq_self a)]
          exact ih fun e => hn (by rw [e])
        · rw [if_neg (fun e => hab (sEq_iff.1 e)), if_neg (fun e => hab (sEq_iff.1 e).symm)]
          have := before_total (show a.data.toList ≠ b.data.toList from fun e => hab (ByteArray.ext (Array.ext' e)))
          rw [Bool.or_eq_true] at this
          exact this
  rcases tot hne with h | h
  · rw [h] at h1; cases h1
  · rw [h] at h2; cases h2
theorem decL_enc (xs : List ByteArray) : decL (encL xs) = xs :=
  (encL_inj (@Classical.epsilon_spec (List ByteArray) (fun ys => encL xs = encL ys) ⟨xs, rfl⟩)).symm
theorem bs_data (l : List UInt8) : (bs l).data.toList = l := by show l.toArray.toList = l; simp
theorem toList_nil (l : List UInt8) : (ByteArray.toList (bs l) == ([] : List UInt8)) = l.isEmpty := by
  rw [bs_toList]
  cases l <;> rfl
end
section
open Go.RowKit
set_option linter.unusedVariables false
set_option linter.unusedSimpArgs false
theorem andE {a b : Bool} (h : (a && b) = true) : a = true ∧ b = true := by
  cases a <;> cases b <;> simp_all
theorem pick3n {α : Type} {a b c : Bool} {x y z q : α} (h : pickA [(a, x), (b, y), (c, z)] = some q) : (a = true ∧ x = q) ∨ (a = false ∧ b = true ∧ y = q) ∨ (a = false ∧ b = false ∧ c = true ∧ z = q) := by
  cases a with
  | true => cases h; exact .inl ⟨rfl, rfl⟩
  | false => exact .inr ((pick2 h).elim (fun k => .inl ⟨rfl, k⟩) (fun k => .inr ⟨rfl, k⟩))
def idxV {α : Type} (p : α → Bool) (xs : List α) : Nat := (xs.takeWhile fun x => !p x).length
theorem idxV_in {α : Type} {p : α → Bool} {x : α} {t : List α} (h : p x = true) : idxV p (x :: t) = 0 := by unfold idxV; rw [List.takeWhile_cons, h]; rfl
theorem idxV_out {α : Type} {p : α → Bool} {x : α} {t : List α} (h : p x = false) : idxV p (x :: t) = idxV p t + 1 := by unfold idxV; rw [List.takeWhile_cons, h]; rfl
theorem idxV_any {α : Type} (p : α → Bool) : ∀ t : List α, decide (idxV p t < t.length) = t.any p
  | [] => rfl
  | x :: t => by
    rw [List.any_cons]
    cases h : p x with
    | true => rw [idxV_in h]; simp
    | false => rw [idxV_out h, Bool.false_or, ← idxV_any p t, List.length_cons]; simp
theorem ifIdxV (k n : Nat) : decide ((if k < n then (k : Int) else -1) ≥ 0) = decide (k < n) := by
  by_cases h : k < n
  · rw [if_pos h, dT h, dT (by omega)]
  · rw [if_neg h, dF h, dF (by omega)]
theorem ble4 (n : Nat) : Nat.ble 4 (n + 1 + 1 + 1 + 1) = true := Nat.ble_eq_true_of_le (by omega)
theorem ble5 (n : Nat) : Nat.ble 5 (n + 1 + 1 + 1 + 1 + 1) = true := Nat.ble_eq_true_of_le (by omega)
theorem ble6 (n : Nat) : Nat.ble 6 (n + 1 + 1 + 1 + 1 + 1 + 1) = true := Nat.ble_eq_true_of_le (by omega)
theorem holds_true : holds True = true := holds_mk trivial
end
end Go.Proofs.YtlenmjklpiccdaaGreatDoor
