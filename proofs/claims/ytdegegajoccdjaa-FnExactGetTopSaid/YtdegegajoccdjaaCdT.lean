/- Trees (printed by vx/trees.sh; numbers of one seat). -/
import Derived.Test.YtdegegajoccdjaaCdD
namespace Go.Proofs.Ytdegegajoccdjaa
set_option linter.unusedVariables false
set_option maxRecDepth 100000
theorem q_ITop0_eq (a : Int) (b : Int) (c : Int) : q_ITop0 brC a b c =
 brC (decide (1 ≤ a) && decide (a ≤ 2000000000))
  (brC (decide (1 ≤ b) && decide (b ≤ 64))
    (brC (decide (0 ≤ c) && decide (c ≤ 2000000000))
      (some ((IV.cv (CV.pv (PV.bool true)), [])))
      (some ((IV.cv (CV.pv (PV.bool false)), []))))
    (some ((IV.cv (CV.pv (PV.bool false)), []))))
  (some ((IV.cv (CV.pv (PV.bool false)), []))) := by kernel_rfl
theorem q_ITop_eq (a : Int) (b : Int) (c : Int) (l : List SeT) : q_ITop brC a b c l =
 brC (decide (1 ≤ a) && decide (a ≤ 2000000000))
  (brC (decide (1 ≤ b) && decide (b ≤ 64))
    (brC (decide (0 ≤ c) && decide (c ≤ 2000000000))
      (brC (isSes (PV.sl (List.length l) (encSe l)) && Nat.beq 50 50)
        (brC (Nat.beq (List.length l) (List.length l))
          (some ((IV.cv (CV.pv (PV.bool (seatsB (asSes (PV.sl (List.length l) (encSe l)))))), [[CV.lst 2 50 (List.length l) (encSe l) true]])))
          (none))
        (none))
      (brC (Nat.beq (List.length l) (List.length l))
        (some ((IV.cv (CV.pv (PV.bool false)), [[CV.lst 2 50 (List.length l) (encSe l) true]])))
        (none)))
    (brC (Nat.beq (List.length l) (List.length l))
      (some ((IV.cv (CV.pv (PV.bool false)), [[CV.lst 2 50 (List.length l) (encSe l) true]])))
      (none)))
  (brC (Nat.beq (List.length l) (List.length l))
    (some ((IV.cv (CV.pv (PV.bool false)), [[CV.lst 2 50 (List.length l) (encSe l) true]])))
    (none)) := by kernel_rfl
end Go.Proofs.Ytdegegajoccdjaa
