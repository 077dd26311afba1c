/- Trees (printed by vx/trees.sh; numbers of one seat). -/
import Derived.Test.YtjbjgeekglpmlaaDoorDtD
namespace Go.Proofs.YtjbjgeekglpmlaaDoor
set_option linter.unusedVariables false
set_option maxRecDepth 100000
theorem q_chars_eq (n : Nat) (l : List PV) : q_chars brC n l =
 brC (srcOk n l 0 0 && decide (0 ≤ 1000000))
  (some ((IV.cv (CV.pv (PV.str (lineV l 0))), [])))
  (none) := by kernel_rfl
end Go.Proofs.YtjbjgeekglpmlaaDoor
