/- Trees (printed by vx/trees.sh; numbers of one seat). -/
import Derived.Test.YtdegegajoccdjaaGdD
namespace Go.Proofs.Ytdegegajoccdjaa
set_option linter.unusedVariables false
set_option maxRecDepth 100000
theorem r_IdxI_eq (f : Nat) (l : List PatT) (k : Int) (i : Int) : r_IdxI brC f l k i =
 brC (decide (i < (↑(List.length l) : Int)))
  (brC (decide (0 ≤ i) && decide (i < (↑(List.length l) : Int)))
    (brC (Nat.ble 5 (List.length (List.drop (Int.toNat i * 5) (encPt l))) && (PV.isInt IntKind.i64 (List.headD (List.drop (Int.toNat i * 5) (encPt l)) PV.nilp) && (PV.isInt IntKind.i64 (List.headD (List.tail (List.drop (Int.toNat i * 5) (encPt l))) PV.nilp) && (PV.isStr (List.headD (List.tail (List.tail (List.drop (Int.toNat i * 5) (encPt l)))) PV.nilp) && (PV.isStr (List.headD (List.tail (List.tail (List.tail (List.drop (Int.toNat i * 5) (encPt l))))) PV.nilp) && (PV.isSl (List.headD (List.tail (List.tail (List.tail (List.tail (List.drop (Int.toNat i * 5) (encPt l)))))) PV.nilp) && true && true) && true) && true) && true) && true) && true)
      (brC (decide (f ≤ 3) && isP1 (PV.agg [PV.int IntKind.i64 (PV.asInt (List.headD (List.drop (Int.toNat i * 5) (encPt l)) PV.nilp)), PV.int IntKind.i64 (PV.asInt (List.headD (List.tail (List.drop (Int.toNat i * 5) (encPt l))) PV.nilp)), PV.str (PV.asStr (List.headD (List.tail (List.tail (List.drop (Int.toNat i * 5) (encPt l)))) PV.nilp)), PV.str (PV.asStr (List.headD (List.tail (List.tail (List.tail (List.drop (Int.toNat i * 5) (encPt l))))) PV.nilp)), PV.sl (PV.slN (List.headD (List.tail (List.tail (List.tail (List.tail (List.drop (Int.toNat i * 5) (encPt l)))))) PV.nilp)) (PV.slL (List.headD (List.tail (List.tail (List.tail (List.tail (List.drop (Int.toNat i * 5) (encPt l)))))) PV.nilp))]) && k == 3 - (↑f : Int))
        (brC (!itemB f (asP1 (PV.agg [PV.int IntKind.i64 (PV.asInt (List.headD (List.drop (Int.toNat i * 5) (encPt l)) PV.nilp)), PV.int IntKind.i64 (PV.asInt (List.headD (List.tail (List.drop (Int.toNat i * 5) (encPt l))) PV.nilp)), PV.str (PV.asStr (List.headD (List.tail (List.tail (List.drop (Int.toNat i * 5) (encPt l)))) PV.nilp)), PV.str (PV.asStr (List.headD (List.tail (List.tail (List.tail (List.drop (Int.toNat i * 5) (encPt l))))) PV.nilp)), PV.sl (PV.slN (List.headD (List.tail (List.tail (List.tail (List.tail (List.drop (Int.toNat i * 5) (encPt l)))))) PV.nilp)) (PV.slL (List.headD (List.tail (List.tail (List.tail (List.tail (List.drop (Int.toNat i * 5) (encPt l)))))) PV.nilp))])))
          (some (Sum.inr (Ex.ret, [(AV.pv (PV.int IntKind.i64 i), none)])))
          (some (Sum.inl [(AV.pv (PV.sl (List.length l) (encPt l)), none), (AV.pv (PV.clo 39 [PV.ref [PV.int IntKind.i64 k]]), none), (AV.pv (PV.int IntKind.i64 (↑(List.length l) : Int)), none), (AV.pv (PV.int IntKind.i64 (IntKind.wrap IntKind.i64 (i + 1))), none)])))
        (none))
      (none))
    (none))
  (some (Sum.inr (Ex.exit 0, [(AV.bad, none)]))) := by kernel_rfl
theorem q_within_eq (n : Int) (a : Int) (b : Int) : q_within brC n a b =
 brC (decide (a ≤ n))
  (some ((IV.cv (CV.pv (PV.bool (decide (n ≤ b)))), [])))
  (some ((IV.cv (CV.pv (PV.bool false)), []))) := by kernel_rfl
theorem q_item1_eq (f : Nat) (x : PatT) (k : Int) : q_item1 brC f x k =
 brC (decide (f ≤ 3) && isP1 (PV.agg [PV.int IntKind.i64 (PatT.low x), PV.int IntKind.i64 (PatT.high x), PV.str (PatT.codes x), PV.str (PatT.text x), PV.sl (List.length (PatT.alts x)) (encAl (PatT.alts x))]) && PV.asInt (List.headD [PV.int IntKind.i64 k] PV.nilp) == 3 - (↑f : Int))
  (some ((IV.cv (CV.pv (PV.bool !itemB f (asP1 (PV.agg [PV.int IntKind.i64 (PatT.low x), PV.int IntKind.i64 (PatT.high x), PV.str (PatT.codes x), PV.str (PatT.text x), PV.sl (List.length (PatT.alts x)) (encAl (PatT.alts x))])))), [])))
  (none) := by kernel_rfl
theorem r_codesOk_eq (c : ByteArray) (i : Int) : r_codesOk brC c i =
 brC (decide (i < (↑(ByteArray.size c) : Int)))
  (brC (decide (0 ≤ i) && decide (i < (↑(ByteArray.size c) : Int)) && true)
    (brC (decide (Lib.indexByte [65, 67, 69, 76, 78, 80, 85] (Nat.toUInt8 (Int.toNat (↑(UInt8.toNat (List.getD (Array.toList (ByteArray.data c)) (Int.toNat i) 0)) : Int))) < 0))
      (some (Sum.inr (Ex.ret, [(AV.pv (PV.bool false), none)])))
      (brC (decide (i > 0))
        (brC (decide (0 ≤ IntKind.wrap IntKind.i64 (i - 1)) && decide (IntKind.wrap IntKind.i64 (i - 1) < (↑(ByteArray.size c) : Int)) && true)
          (brC (decide (0 ≤ i) && decide (i < (↑(ByteArray.size c) : Int)) && true)
            (brC (decide ((↑(UInt8.toNat (List.getD (Array.toList (ByteArray.data c)) (Int.toNat (IntKind.wrap IntKind.i64 (i - 1))) 0)) : Int) ≥ (↑(UInt8.toNat (List.getD (Array.toList (ByteArray.data c)) (Int.toNat i) 0)) : Int)))
              (some (Sum.inr (Ex.ret, [(AV.pv (PV.bool false), none)])))
              (some (Sum.inl [(AV.pv (PV.str c), none), (AV.pv (PV.int IntKind.i64 (IntKind.wrap IntKind.i64 (i + 1))), none)])))
            (none))
          (none))
        (some (Sum.inl [(AV.pv (PV.str c), none), (AV.pv (PV.int IntKind.i64 (IntKind.wrap IntKind.i64 (i + 1))), none)]))))
    (none))
  (some (Sum.inr (Ex.exit 0, [(AV.bad, none)]))) := by kernel_rfl
theorem q_IdxI_eq (f : Nat) (l : List PatT) (k : Int) : q_IdxI brC f l k =
 brC (decide (f ≤ 3) && isPt (pPt l) && k == 3 - (↑f : Int) && Nat.beq 39 39 && (↑(List.length l) : Int) == (↑(List.length (asPt (pPt l))) : Int) && 0 == 0 && decide (idxV (badI f) (asPt (pPt l)) < List.length (asPt (pPt l))))
  (some ((IV.cv (CV.pv (PV.int IntKind.i64 (↑(idxV (badI f) (asPt (pPt l))) : Int))), [])))
  (brC (decide (f ≤ 3) && isPt (pPt l) && k == 3 - (↑f : Int) && Nat.beq 39 39 && (↑(List.length l) : Int) == (↑(List.length (asPt (pPt l))) : Int) && 0 == 0 && !decide (idxV (badI f) (asPt (pPt l)) < List.length (asPt (pPt l))))
    (some ((IV.cv (CV.pv (PV.int IntKind.i64 (Int.negSucc 0))), [])))
    (none)) := by kernel_rfl
theorem q_ConA_eq (f : Nat) (l : List (List PatT)) (k : Int) : q_ConA brC f l k =
 brC (decide (0 < f) && decide (f ≤ 4) && isAl (PV.sl (List.length l) (encAl l)) && k == 3 - (↑f : Int) && Nat.beq 57 57)
  (some ((IV.cv (CV.pv (PV.bool (decide ((if idxV (badA f) (asAl (PV.sl (List.length l) (encAl l))) < List.length (asAl (PV.sl (List.length l) (encAl l))) then (↑(idxV (badA f) (asAl (PV.sl (List.length l) (encAl l)))) : Int) else -1) ≥ 0)))), [])))
  (none) := by kernel_rfl
theorem q_itemsOk_eq (f : Nat) (l : List PatT) (k : Int) : q_itemsOk brC f l k =
 brC (rngI (↑(List.length l) : Int) 1 8)
  (brC (decide (f ≤ 3) && isPt (PV.sl (List.length l) (encPt l)) && k == 3 - (↑f : Int) && Nat.beq 39 39)
    (some ((IV.cv (CV.pv (PV.bool !!itemsL f (asPt (PV.sl (List.length l) (encPt l))))), [])))
    (none))
  (some ((IV.cv (CV.pv (PV.bool false)), []))) := by kernel_rfl
theorem q_ConI_eq (f : Nat) (l : List PatT) (k : Int) : q_ConI brC f l k =
 brC (decide (f ≤ 3) && isPt (PV.sl (List.length l) (encPt l)) && k == 3 - (↑f : Int) && Nat.beq 39 39)
  (some ((IV.cv (CV.pv (PV.bool (decide ((if idxV (badI f) (asPt (PV.sl (List.length l) (encPt l))) < List.length (asPt (PV.sl (List.length l) (encPt l))) then (↑(idxV (badI f) (asPt (PV.sl (List.length l) (encPt l)))) : Int) else -1) ≥ 0)))), [])))
  (none) := by kernel_rfl
theorem q_itemOk_eq (f : Nat) (x : PatT) (k : Int) : q_itemOk brC f x k =
 brC (!rngI (PatT.low x) 0 99)
  (some ((IV.cv (CV.pv (PV.bool false)), [])))
  (brC (PatT.high x != -1)
    (brC (!rngI (PatT.high x) (PatT.low x) 99)
      (some ((IV.cv (CV.pv (PV.bool false)), [])))
      (brC (!ByteArray.toList (PatT.codes x) == [])
        (brC (decide (ByteArray.size (PatT.codes x) ≤ 1000000))
          (brC (codesB (PatT.codes x))
            (brC (ByteArray.toList (PatT.text x) == [])
              (some ((IV.cv (CV.pv (PV.bool ((↑(List.length (PatT.alts x)) : Int) == 0))), [])))
              (some ((IV.cv (CV.pv (PV.bool false)), []))))
            (some ((IV.cv (CV.pv (PV.bool false)), []))))
          (none))
        (brC (!ByteArray.toList (PatT.text x) == [])
          (brC (decide ((↑(ByteArray.size (PatT.text x)) : Int) ≤ 24))
            (some ((IV.cv (CV.pv (PV.bool ((↑(List.length (PatT.alts x)) : Int) == 0))), [])))
            (some ((IV.cv (CV.pv (PV.bool false)), []))))
          (brC (rngI (↑(List.length (PatT.alts x)) : Int) 1 8)
            (brC (decide (k < 3))
              (brC (decide (0 < f) && decide (f ≤ 4) && isAl (PV.sl (List.length (PatT.alts x)) (encAl (PatT.alts x))) && k == 3 - (↑f : Int) && Nat.beq 57 57)
                (some ((IV.cv (CV.pv (PV.bool !!altsB (f - 1) (asAl (PV.sl (List.length (PatT.alts x)) (encAl (PatT.alts x)))))), [])))
                (none))
              (some ((IV.cv (CV.pv (PV.bool false)), []))))
            (some ((IV.cv (CV.pv (PV.bool false)), [])))))))
    (brC (!ByteArray.toList (PatT.codes x) == [])
      (brC (decide (ByteArray.size (PatT.codes x) ≤ 1000000))
        (brC (codesB (PatT.codes x))
          (brC (ByteArray.toList (PatT.text x) == [])
            (some ((IV.cv (CV.pv (PV.bool ((↑(List.length (PatT.alts x)) : Int) == 0))), [])))
            (some ((IV.cv (CV.pv (PV.bool false)), []))))
          (some ((IV.cv (CV.pv (PV.bool false)), []))))
        (none))
      (brC (!ByteArray.toList (PatT.text x) == [])
        (brC (decide ((↑(ByteArray.size (PatT.text x)) : Int) ≤ 24))
          (some ((IV.cv (CV.pv (PV.bool ((↑(List.length (PatT.alts x)) : Int) == 0))), [])))
          (some ((IV.cv (CV.pv (PV.bool false)), []))))
        (brC (rngI (↑(List.length (PatT.alts x)) : Int) 1 8)
          (brC (decide (k < 3))
            (brC (decide (0 < f) && decide (f ≤ 4) && isAl (PV.sl (List.length (PatT.alts x)) (encAl (PatT.alts x))) && k == 3 - (↑f : Int) && Nat.beq 57 57)
              (some ((IV.cv (CV.pv (PV.bool !!altsB (f - 1) (asAl (PV.sl (List.length (PatT.alts x)) (encAl (PatT.alts x)))))), [])))
              (none))
            (some ((IV.cv (CV.pv (PV.bool false)), []))))
          (some ((IV.cv (CV.pv (PV.bool false)), []))))))) := by kernel_rfl
theorem q_IdxA_eq (f : Nat) (l : List (List PatT)) (k : Int) : q_IdxA brC f l k =
 brC (decide (0 < f) && decide (f ≤ 4) && isAl (pAl l) && k == 3 - (↑f : Int) && Nat.beq 57 57 && (↑(List.length l) : Int) == (↑(List.length (asAl (pAl l))) : Int) && 0 == 0 && decide (idxV (badA f) (asAl (pAl l)) < List.length (asAl (pAl l))))
  (some ((IV.cv (CV.pv (PV.int IntKind.i64 (↑(idxV (badA f) (asAl (pAl l))) : Int))), [])))
  (brC (decide (0 < f) && decide (f ≤ 4) && isAl (pAl l) && k == 3 - (↑f : Int) && Nat.beq 57 57 && (↑(List.length l) : Int) == (↑(List.length (asAl (pAl l))) : Int) && 0 == 0 && !decide (idxV (badA f) (asAl (pAl l)) < List.length (asAl (pAl l))))
    (some ((IV.cv (CV.pv (PV.int IntKind.i64 (Int.negSucc 0))), [])))
    (none)) := by kernel_rfl
theorem r_IdxA_eq (f : Nat) (l : List (List PatT)) (k : Int) (i : Int) : r_IdxA brC f l k i =
 brC (decide (i < (↑(List.length l) : Int)))
  (brC (decide (0 ≤ i) && decide (i < (↑(List.length l) : Int)))
    (brC (Nat.blt 0 (List.length (List.drop (Int.toNat i * 1) (encAl l))) && PV.isSl (List.headD (List.drop (Int.toNat i * 1) (encAl l)) PV.nilp) && true)
      (brC (decide (0 < f) && decide (f ≤ 4) && isPt (PV.sl (PV.slN (List.headD (List.drop (Int.toNat i * 1) (encAl l)) PV.nilp)) (PV.slL (List.headD (List.drop (Int.toNat i * 1) (encAl l)) PV.nilp))) && k == 3 - (↑f : Int))
        (brC (!itemsB (f - 1) (asPt (PV.sl (PV.slN (List.headD (List.drop (Int.toNat i * 1) (encAl l)) PV.nilp)) (PV.slL (List.headD (List.drop (Int.toNat i * 1) (encAl l)) PV.nilp)))))
          (some (Sum.inr (Ex.ret, [(AV.pv (PV.int IntKind.i64 i), none)])))
          (some (Sum.inl [(AV.pv (PV.sl (List.length l) (encAl l)), none), (AV.pv (PV.clo 57 [PV.ref [PV.int IntKind.i64 k]]), none), (AV.pv (PV.int IntKind.i64 (↑(List.length l) : Int)), none), (AV.pv (PV.int IntKind.i64 (IntKind.wrap IntKind.i64 (i + 1))), none)])))
        (none))
      (none))
    (none))
  (some (Sum.inr (Ex.exit 0, [(AV.bad, none)]))) := by kernel_rfl
theorem q_alt1_eq (f : Nat) (l : List PatT) (k : Int) : q_alt1 brC f l k =
 brC (decide (0 < f) && decide (f ≤ 4) && isPt (PV.sl (List.length l) (encPt l)) && IntKind.wrap IntKind.i64 (PV.asInt (List.headD [PV.int IntKind.i64 k] PV.nilp) + 1) == 3 - ((↑f : Int) - 1))
  (some ((IV.cv (CV.pv (PV.bool !itemsB (f - 1) (asPt (PV.sl (List.length l) (encPt l))))), [])))
  (none) := by kernel_rfl
theorem q_codesOk_eq (c : ByteArray) : q_codesOk brC c =
 brC (0 == 0 && decide (ByteArray.size c ≤ 1000000) && !codesB c)
  (some ((IV.cv (CV.pv (PV.bool false)), [])))
  (brC (0 == 0 && decide (ByteArray.size c ≤ 1000000) && codesB c)
    (some ((IV.cv (CV.pv (PV.bool true)), [])))
    (none)) := by kernel_rfl
theorem q_PatternOk_eq (l : List PatT) : q_PatternOk brC l =
 brC (decide (3 ≤ 3) && isPt (PV.sl (List.length l) (encPt l)) && 0 == 3 - (↑3 : Int))
  (some ((IV.cv (CV.pv (PV.bool (itemsB 3 (asPt (PV.sl (List.length l) (encPt l)))))), [])))
  (none) := by kernel_rfl
end Go.Proofs.Ytdegegajoccdjaa
