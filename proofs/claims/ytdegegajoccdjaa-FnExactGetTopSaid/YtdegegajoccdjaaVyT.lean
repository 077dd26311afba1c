/- Trees (printed by vx/trees.sh; numbers of one seat). -/
import Derived.Test.YtdegegajoccdjaaVyD
namespace Go.Proofs.Ytdegegajoccdjaa
set_option linter.unusedVariables false
set_option maxRecDepth 100000
theorem q_ws_eq (t : ByteArray) (s : ByteArray) : q_ws brC t s =
 brC (Nat.beq (List.length (bytesP s)) (ByteArray.size s * 1) && (decide (ByteArray.size t + ByteArray.size s ≤ 140737488351232) && decide ((ByteArray.size t + ByteArray.size s) * 1 ≤ 140737488355328)))
  (some ((IV.tup [IV.cv (CV.pv (PV.int IntKind.i64 (↑(ByteArray.size s) : Int))), IV.cv CV.bad], [[CV.al 333, CV.lst 1 5 (ByteArray.size t + ByteArray.size s) (bytesP t ++ bytesP s) false]])))
  (none) := by kernel_rfl
theorem q_ws0_eq (s : ByteArray) : q_ws0 brC s =
 brC (Nat.beq (List.length (bytesP s)) (ByteArray.size s * 1) && (decide (ByteArray.size s ≤ 140737488351232) && decide (ByteArray.size s * 1 ≤ 140737488355328)))
  (some ((IV.tup [IV.cv (CV.pv (PV.int IntKind.i64 (↑(ByteArray.size s) : Int))), IV.cv CV.bad], [[CV.al 333, CV.lst 1 5 (ByteArray.size s) (bytesP s) false]])))
  (none) := by kernel_rfl
end Go.Proofs.Ytdegegajoccdjaa
