/- Trees (printed by vx/trees.sh; numbers of one seat). -/
import Derived.Test.YtdegegajoccdjaaGjD
namespace Go.Proofs.Ytdegegajoccdjaa
set_option linter.unusedVariables false
set_option maxRecDepth 100000
theorem q_matches_eq (s : ByteArray) (l : List PatT) : q_matches brC s l =
 brC (decide (0 ≤ IntKind.wrap IntKind.i64 ((↑(ByteArray.size s) : Int) + 1)) && decide (IntKind.wrap IntKind.i64 ((↑(ByteArray.size s) : Int) + 1) = IntKind.wrap IntKind.i64 ((↑(ByteArray.size s) : Int) + 1)) && decide (IntKind.wrap IntKind.i64 ((↑(ByteArray.size s) : Int) + 1) ≤ 140737488351232) && decide (IntKind.wrap IntKind.i64 ((↑(ByteArray.size s) : Int) + 1) * (↑1 : Int) ≤ 281474976710656))
  (brC (decide (0 ≤ 0) && decide (0 < (↑(Int.toNat (IntKind.wrap IntKind.i64 ((↑(ByteArray.size s) : Int) + 1))) : Int)))
    (brC (Nat.beq 1 1 && Nat.ble 1 (List.length (List.flatten (List.replicate (Int.toNat (IntKind.wrap IntKind.i64 ((↑(ByteArray.size s) : Int) + 1))) [PV.bool false]))))
      (brC (isPt (PV.sl (List.length l) (encPt l)) && isBL (PV.sl (Int.toNat (IntKind.wrap IntKind.i64 ((↑(ByteArray.size s) : Int) + 1))) (PV.bool true :: List.append._f [] PUnit.unit (List.drop 1 (List.flatten (List.replicate (Int.toNat (IntKind.wrap IntKind.i64 ((↑(ByteArray.size s) : Int) + 1))) [PV.bool false]))))) && decide (3 ≤ 3) && itemsB 3 (asPt (PV.sl (List.length l) (encPt l))) && decide (List.length (asBL (PV.sl (Int.toNat (IntKind.wrap IntKind.i64 ((↑(ByteArray.size s) : Int) + 1))) (PV.bool true :: List.append._f [] PUnit.unit (List.drop 1 (List.flatten (List.replicate (Int.toNat (IntKind.wrap IntKind.i64 ((↑(ByteArray.size s) : Int) + 1))) [PV.bool false])))))) = ByteArray.size s + 1) && decide (ByteArray.size s ≤ 64))
        (brC (decide (0 ≤ (↑(ByteArray.size s) : Int)) && decide ((↑(ByteArray.size s) : Int) < (↑(List.length (allV s (asPt (PV.sl (List.length l) (encPt l))) (asBL (PV.sl (Int.toNat (IntKind.wrap IntKind.i64 ((↑(ByteArray.size s) : Int) + 1))) (PV.bool true :: List.append._f [] PUnit.unit (List.drop 1 (List.flatten (List.replicate (Int.toNat (IntKind.wrap IntKind.i64 ((↑(ByteArray.size s) : Int) + 1))) [PV.bool false])))))))) : Int)))
          (brC (Nat.ble (Int.toNat (↑(ByteArray.size s) : Int) * 1) (List.length (List.map PV.bool (allV s (asPt (PV.sl (List.length l) (encPt l))) (asBL (PV.sl (Int.toNat (IntKind.wrap IntKind.i64 ((↑(ByteArray.size s) : Int) + 1))) (PV.bool true :: List.append._f [] PUnit.unit (List.drop 1 (List.flatten (List.replicate (Int.toNat (IntKind.wrap IntKind.i64 ((↑(ByteArray.size s) : Int) + 1))) [PV.bool false]))))))))) && (Nat.blt 0 (List.length (List.drop (Int.toNat (↑(ByteArray.size s) : Int) * 1) (List.map PV.bool (allV s (asPt (PV.sl (List.length l) (encPt l))) (asBL (PV.sl (Int.toNat (IntKind.wrap IntKind.i64 ((↑(ByteArray.size s) : Int) + 1))) (PV.bool true :: List.append._f [] PUnit.unit (List.drop 1 (List.flatten (List.replicate (Int.toNat (IntKind.wrap IntKind.i64 ((↑(ByteArray.size s) : Int) + 1))) [PV.bool false])))))))))) && PV.isBool (List.headD (List.drop (Int.toNat (↑(ByteArray.size s) : Int) * 1) (List.map PV.bool (allV s (asPt (PV.sl (List.length l) (encPt l))) (asBL (PV.sl (Int.toNat (IntKind.wrap IntKind.i64 ((↑(ByteArray.size s) : Int) + 1))) (PV.bool true :: List.append._f [] PUnit.unit (List.drop 1 (List.flatten (List.replicate (Int.toNat (IntKind.wrap IntKind.i64 ((↑(ByteArray.size s) : Int) + 1))) [PV.bool false]))))))))) PV.nilp) && true))
            (some ((IV.cv (CV.pv (PV.bool (PV.asBool (List.headD (List.drop (Int.toNat (↑(ByteArray.size s) : Int) * 1) (List.map PV.bool (allV s (asPt (PV.sl (List.length l) (encPt l))) (asBL (PV.sl (Int.toNat (IntKind.wrap IntKind.i64 ((↑(ByteArray.size s) : Int) + 1))) (PV.bool true :: List.append._f [] PUnit.unit (List.drop 1 (List.flatten (List.replicate (Int.toNat (IntKind.wrap IntKind.i64 ((↑(ByteArray.size s) : Int) + 1))) [PV.bool false]))))))))) PV.nilp)))), [])))
            (none))
          (none))
        (none))
      (none))
    (none))
  (none) := by kernel_rfl
theorem q_MatchPattern_eq (s : ByteArray) (l : List PatT) : q_MatchPattern brC s l =
 brC (decide ((↑(ByteArray.size s) : Int) ≤ 64))
  (brC (isPt (PV.sl (List.length l) (encPt l)))
    (brC (itemsB 3 (asPt (PV.sl (List.length l) (encPt l))))
      (brC (isPt (PV.sl (List.length l) (encPt l)) && itemsB 3 (asPt (PV.sl (List.length l) (encPt l))) && decide (ByteArray.size s ≤ 64))
        (some ((IV.cv (CV.pv (PV.bool (matchB (Array.toList (ByteArray.data s)) (asPt (PV.sl (List.length l) (encPt l)))))), [])))
        (none))
      (some ((IV.cv (CV.pv (PV.bool false)), []))))
    (none))
  (some ((IV.cv (CV.pv (PV.bool false)), []))) := by kernel_rfl
end Go.Proofs.Ytdegegajoccdjaa
