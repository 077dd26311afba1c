/- Trees (printed by vx/trees.sh; numbers of one seat). -/
import Derived.Test.YtdegegajoccdjaaBzD
namespace Go.Proofs.Ytdegegajoccdjaa
set_option linter.unusedVariables false
set_option maxRecDepth 100000
theorem q_markS0_eq : q_markS0 brC =
 some ((IV.cv (CV.pv (PV.int IntKind.i64 (Int.ofNat 1))), [])) := by kernel_rfl
theorem q_markS_eq (l : List SeT) : q_markS brC l =
 brC (isSes (PV.sl (List.length l) (encSe l)) && Nat.beq 50 50 && Nat.beq 0 0 && 0 == 0 && 1 == 1)
  (brC (Nat.beq (List.length (markL 1 (asSes (PV.sl (List.length l) (encSe l))))) (List.length l))
    (some ((IV.cv (CV.pv (PV.int IntKind.i64 (2 * (↑(List.length (asSes (PV.sl (List.length l) (encSe l)))) : Int) + 1))), [[CV.lst 2 50 (List.length l) (encSe (markL 1 (asSes (PV.sl (List.length l) (encSe l))))) true]])))
    (none))
  (none) := by kernel_rfl
theorem q_eqS0_eq : q_eqS0 brC =
 some ((IV.cv (CV.pv (PV.bool true)), [])) := by kernel_rfl
theorem r_heldS_eq (l : List SeT) (k : Int) (i : Int) : r_heldS brC l k i =
 brC (decide (i < (↑(List.length l) : Int)))
  (brC (decide (0 ≤ i) && decide (i < (↑(List.length l) : Int)))
    (brC (Nat.ble (Int.toNat i * 2 + 0) (List.length (encSe l)) && (Nat.blt 0 (List.length (List.drop (Int.toNat i * 2 + 0) (encSe l))) && PV.isInt IntKind.i64 (List.headD (List.drop (Int.toNat i * 2 + 0) (encSe l)) PV.nilp) && true))
      (brC (PV.asInt (List.headD (List.drop (Int.toNat i * 2 + 0) (encSe l)) PV.nilp) != k)
        (some (Sum.inr (Ex.ret, [(AV.own 0, some (Ob.lst 2 50 (List.length l) (encSe l) true)), (AV.pv (PV.int IntKind.i64 k), none)])))
        (brC (decide (0 ≤ i) && decide (i < (↑(List.length l) : Int)))
          (brC (Nat.ble (Int.toNat i * 2 + 1) (List.length (encSe l)) && (Nat.blt 0 (List.length (List.drop (Int.toNat i * 2 + 1) (encSe l))) && PV.isInt IntKind.i64 (List.headD (List.drop (Int.toNat i * 2 + 1) (encSe l)) PV.nilp) && true))
            (brC (PV.asInt (List.headD (List.drop (Int.toNat i * 2 + 1) (encSe l)) PV.nilp) != IntKind.wrap IntKind.i64 (k + 1))
              (some (Sum.inr (Ex.ret, [(AV.own 0, some (Ob.lst 2 50 (List.length l) (encSe l) true)), (AV.pv (PV.int IntKind.i64 (IntKind.wrap IntKind.i64 (k + 1))), none)])))
              (some (Sum.inl [(AV.own 0, some (Ob.lst 2 50 (List.length l) (encSe l) true)), (AV.pv (PV.int IntKind.i64 (IntKind.wrap IntKind.i64 (IntKind.wrap IntKind.i64 (k + 1) + 1))), none), (AV.pv (PV.int IntKind.i64 (IntKind.wrap IntKind.i64 (i + 1))), none)])))
            (none))
          (none)))
      (none))
    (none))
  (some (Sum.inr (Ex.exit 0, [(AV.own 0, some (Ob.lst 2 50 (List.length l) (encSe l) true)), (AV.pv (PV.int IntKind.i64 k), none)]))) := by kernel_rfl
theorem q_markT_eq (a : Int) (b : Int) (c : Int) (l : List SeT) : q_markT brC a b c l =
 brC (isSes (PV.sl (List.length l) (encSe l)) && Nat.beq 50 50 && 1 == 1)
  (brC (Nat.beq (List.length l) (List.length l))
    (some ((IV.cv (CV.pv (PV.int IntKind.i64 (2 * (↑(List.length (asSes (PV.sl (List.length l) (encSe l)))) : Int) + 1))), [[CV.lst 2 50 (List.length l) (encSe (markL 1 (asSes (PV.sl (List.length l) (encSe l))))) true]])))
    (none))
  (none) := by kernel_rfl
theorem r_eqS_eq (l : List SeT) (m : List SeT) (i : Int) : r_eqS brC l m i =
 brC (decide (i < (↑(List.length l) : Int)))
  (brC (decide (0 ≤ i) && decide (i < (↑(List.length l) : Int)))
    (brC (Nat.ble (Int.toNat i * 2) (List.length (encSe l)) && (Nat.ble 2 (List.length (List.drop (Int.toNat i * 2) (encSe l))) && (PV.isInt IntKind.i64 (List.headD (List.drop (Int.toNat i * 2) (encSe l)) PV.nilp) && (PV.isInt IntKind.i64 (List.headD (List.tail (List.drop (Int.toNat i * 2) (encSe l))) PV.nilp) && true && true) && true) && true))
      (brC (decide (0 ≤ i) && decide (i < (↑(List.length m) : Int)))
        (brC (Nat.ble 2 (List.length (List.drop (Int.toNat i * 2) (encSe m))) && (PV.isInt IntKind.i64 (List.headD (List.drop (Int.toNat i * 2) (encSe m)) PV.nilp) && (PV.isInt IntKind.i64 (List.headD (List.tail (List.drop (Int.toNat i * 2) (encSe m))) PV.nilp) && true && true) && true) && true)
          (brC (isSe (PV.agg [PV.int IntKind.i64 (PV.asInt (List.headD (List.drop (Int.toNat i * 2) (encSe l)) PV.nilp)), PV.int IntKind.i64 (PV.asInt (List.headD (List.tail (List.drop (Int.toNat i * 2) (encSe l))) PV.nilp))]) && isSe (PV.agg [PV.int IntKind.i64 (PV.asInt (List.headD (List.drop (Int.toNat i * 2) (encSe m)) PV.nilp)), PV.int IntKind.i64 (PV.asInt (List.headD (List.tail (List.drop (Int.toNat i * 2) (encSe m))) PV.nilp))]))
            (brC (!eqSe (asSe (PV.agg [PV.int IntKind.i64 (PV.asInt (List.headD (List.drop (Int.toNat i * 2) (encSe l)) PV.nilp)), PV.int IntKind.i64 (PV.asInt (List.headD (List.tail (List.drop (Int.toNat i * 2) (encSe l))) PV.nilp))])) (asSe (PV.agg [PV.int IntKind.i64 (PV.asInt (List.headD (List.drop (Int.toNat i * 2) (encSe m)) PV.nilp)), PV.int IntKind.i64 (PV.asInt (List.headD (List.tail (List.drop (Int.toNat i * 2) (encSe m))) PV.nilp))])))
              (some (Sum.inr (Ex.ret, [(AV.own 0, some (Ob.lst 2 50 (List.length l) (encSe l) true)), (AV.pv (PV.bool false), none)])))
              (some (Sum.inl [(AV.own 0, some (Ob.lst 2 50 (List.length l) (encSe l) true)), (AV.pv (PV.sl (List.length m) (encSe m)), none), (AV.pv (PV.int IntKind.i64 (IntKind.wrap IntKind.i64 (i + 1))), none)])))
            (none))
          (none))
        (none))
      (none))
    (none))
  (some (Sum.inr (Ex.exit 0, [(AV.own 0, some (Ob.lst 2 50 (List.length l) (encSe l) true)), (AV.bad, none)]))) := by kernel_rfl
theorem q_eqS_eq (l : List SeT) (m : List SeT) : q_eqS brC l m =
 brC ((↑(List.length l) : Int) != (↑(List.length m) : Int))
  (brC (Nat.beq (List.length l) (List.length l))
    (some ((IV.cv (CV.pv (PV.bool false)), [[CV.lst 2 50 (List.length l) (encSe l) true]])))
    (none))
  (brC (isSes (PV.sl (List.length l) (encSe l)) && Nat.beq 50 50 && Nat.beq 0 0 && isSes (pSes m) && 0 == 0 && decide (List.length (asSes (PV.sl (List.length l) (encSe l))) = List.length (asSes (pSes m))) && eqSes (asSes (PV.sl (List.length l) (encSe l))) (asSes (pSes m)))
    (brC (Nat.beq (List.length l) (List.length l))
      (some ((IV.cv (CV.pv (PV.bool true)), [[CV.lst 2 50 (List.length l) (encSe l) true]])))
      (none))
    (brC (isSes (PV.sl (List.length l) (encSe l)) && Nat.beq 50 50 && Nat.beq 0 0 && isSes (pSes m) && 0 == 0 && decide (List.length (asSes (PV.sl (List.length l) (encSe l))) = List.length (asSes (pSes m))))
      (brC (Nat.beq (List.length l) (List.length l))
        (some ((IV.cv (CV.pv (PV.bool false)), [[CV.lst 2 50 (List.length l) (encSe l) true]])))
        (none))
      (none))) := by kernel_rfl
theorem q_eqSeat_eq (x : SeT) (y : SeT) : q_eqSeat brC x y =
 brC (SeT.id x != SeT.id y)
  (some ((IV.cv (CV.pv (PV.bool false)), [])))
  (brC (SeT.slot x != SeT.slot y)
    (some ((IV.cv (CV.pv (PV.bool false)), [])))
    (some ((IV.cv (CV.pv (PV.bool true)), [])))) := by kernel_rfl
theorem r_markS_eq (l : List SeT) (k : Int) (i : Int) : r_markS brC l k i =
 brC (decide (i < (↑(List.length l) : Int)))
  (brC (decide (0 ≤ i) && decide (i < (↑(List.length l) : Int)))
    (brC (Nat.beq (List.length [PV.int IntKind.i64 k]) 1 && Nat.ble (Int.toNat i * 2 + 0 + 1) (List.length (encSe l)))
      (brC (decide (0 ≤ i) && decide (i < (↑(List.length l) : Int)))
        (brC (Nat.beq (List.length [PV.int IntKind.i64 (IntKind.wrap IntKind.i64 (k + 1))]) 1 && Nat.ble (Int.toNat i * 2 + 1 + 1) (List.length (List.take (Int.toNat i * 2 + 0) (encSe l) ++ [PV.int IntKind.i64 k] ++ List.drop (Int.toNat i * 2 + 0 + 1) (encSe l))))
          (some (Sum.inl [(AV.own 0, some (Ob.lst 2 50 (List.length l) (List.take (Int.toNat i * 2 + 1) (List.take (Int.toNat i * 2 + 0) (encSe l) ++ [PV.int IntKind.i64 k] ++ List.drop (Int.toNat i * 2 + 0 + 1) (encSe l)) ++ [PV.int IntKind.i64 (IntKind.wrap IntKind.i64 (k + 1))] ++ List.drop (Int.toNat i * 2 + 1 + 1) (List.take (Int.toNat i * 2 + 0) (encSe l) ++ [PV.int IntKind.i64 k] ++ List.drop (Int.toNat i * 2 + 0 + 1) (encSe l))) true)), (AV.pv (PV.int IntKind.i64 (IntKind.wrap IntKind.i64 (IntKind.wrap IntKind.i64 (k + 1) + 1))), none), (AV.pv (PV.int IntKind.i64 (IntKind.wrap IntKind.i64 (i + 1))), none)]))
          (none))
        (none))
      (none))
    (none))
  (some (Sum.inr (Ex.exit 0, [(AV.own 0, some (Ob.lst 2 50 (List.length l) (encSe l) true)), (AV.pv (PV.int IntKind.i64 k), none)]))) := by kernel_rfl
theorem q_eqT_eq (a : Int) (b : Int) (c : Int) (l : List SeT) (a' : Int) (b' : Int) (c' : Int) (m : List SeT) : q_eqT brC a b c l a' b' c' m =
 brC (a != a')
  (brC (Nat.beq (List.length l) (List.length l))
    (some ((IV.cv (CV.pv (PV.bool false)), [[CV.lst 2 50 (List.length l) (encSe l) true]])))
    (none))
  (brC (b != b')
    (brC (Nat.beq (List.length l) (List.length l))
      (some ((IV.cv (CV.pv (PV.bool false)), [[CV.lst 2 50 (List.length l) (encSe l) true]])))
      (none))
    (brC (c != c')
      (brC (Nat.beq (List.length l) (List.length l))
        (some ((IV.cv (CV.pv (PV.bool false)), [[CV.lst 2 50 (List.length l) (encSe l) true]])))
        (none))
      (brC (isSes (PV.sl (List.length l) (encSe l)) && Nat.beq 50 50 && isSes (PV.sl (List.length m) (encSe m)))
        (brC (!eqSes (asSes (PV.sl (List.length l) (encSe l))) (asSes (PV.sl (List.length m) (encSe m))))
          (brC (Nat.beq (List.length l) (List.length l))
            (some ((IV.cv (CV.pv (PV.bool false)), [[CV.lst 2 50 (List.length l) (encSe l) true]])))
            (none))
          (brC (Nat.beq (List.length l) (List.length l))
            (some ((IV.cv (CV.pv (PV.bool true)), [[CV.lst 2 50 (List.length l) (encSe l) true]])))
            (none)))
        (none)))) := by kernel_rfl
theorem r_heldS0_eq : r_heldS0 brC =
 some (Sum.inr (Ex.exit 0, [(AV.pv (PV.sl 0 []), none), (AV.pv (PV.int IntKind.i64 (Int.ofNat 1)), none)])) := by kernel_rfl
theorem q_heldS_eq (l : List SeT) : q_heldS brC l =
 brC (isSes (PV.sl (List.length l) (encSe l)) && Nat.beq 50 50 && Nat.beq 0 0 && 0 == 0 && 1 == 1 && holds (asSes (PV.sl (List.length l) (encSe l)) = markL 1 (asSes (PV.sl (List.length l) (encSe l)))))
  (brC (Nat.beq (List.length (asSes (PV.sl (List.length l) (encSe l)))) (List.length l))
    (some ((IV.cv (CV.pv (PV.int IntKind.i64 (2 * (↑(List.length (asSes (PV.sl (List.length l) (encSe l)))) : Int) + 1))), [[CV.lst 2 50 (List.length l) (encSe (asSes (PV.sl (List.length l) (encSe l)))) true]])))
    (none))
  (none) := by kernel_rfl
theorem q_heldS0_eq : q_heldS0 brC =
 some ((IV.cv (CV.pv (PV.int IntKind.i64 (Int.ofNat 1))), [])) := by kernel_rfl
theorem q_eqT0_eq (a : Int) (b : Int) (c : Int) : q_eqT0 brC a b c =
 brC (a != a)
  (some ((IV.cv (CV.pv (PV.bool false)), [])))
  (brC (b != b)
    (some ((IV.cv (CV.pv (PV.bool false)), [])))
    (brC (c != c)
      (some ((IV.cv (CV.pv (PV.bool false)), [])))
      (some ((IV.cv (CV.pv (PV.bool true)), []))))) := by kernel_rfl
theorem q_heldT0_eq (a : Int) (b : Int) (c : Int) : q_heldT0 brC a b c =
 some ((IV.cv (CV.pv (PV.int IntKind.i64 (Int.ofNat 1))), [])) := by kernel_rfl
theorem q_heldT_eq (a : Int) (b : Int) (c : Int) (l : List SeT) : q_heldT brC a b c l =
 brC (isSes (PV.sl (List.length l) (encSe l)) && Nat.beq 50 50 && 1 == 1 && holds (asSes (PV.sl (List.length l) (encSe l)) = markL 1 (asSes (PV.sl (List.length l) (encSe l)))))
  (brC (Nat.beq (List.length l) (List.length l))
    (some ((IV.cv (CV.pv (PV.int IntKind.i64 (2 * (↑(List.length (asSes (PV.sl (List.length l) (encSe l)))) : Int) + 1))), [[CV.lst 2 50 (List.length l) (encSe l) true]])))
    (none))
  (none) := by kernel_rfl
theorem q_markT0_eq (a : Int) (b : Int) (c : Int) : q_markT0 brC a b c =
 some ((IV.cv (CV.pv (PV.int IntKind.i64 (Int.ofNat 1))), [])) := by kernel_rfl
theorem r_eqS0_eq : r_eqS0 brC =
 some (Sum.inr (Ex.exit 0, [(AV.pv (PV.sl 0 []), none), (AV.bad, none)])) := by kernel_rfl
theorem r_markS0_eq : r_markS0 brC =
 some (Sum.inr (Ex.exit 0, [(AV.pv (PV.sl 0 []), none), (AV.pv (PV.int IntKind.i64 (Int.ofNat 1)), none)])) := by kernel_rfl
end Go.Proofs.Ytdegegajoccdjaa
