/- Closures handed to slices.ContainsFunc: written by wip/gen/containsf.py. -/
import Derived.Test.YtfimopcklknekaaGreatDoorCell
namespace Go.Proofs.YtfimopcklknekaaGreatDoor
open Go.RowKit
set_option linter.unusedVariables false

/-- An index comes back, or -1: not negative where one is found. -/
def IdxPost (found : Bool) (w : World) (e : Ending) (w' : World) : Prop := ∃ r : Int, decide (0 ≤ r) = found ∧ e = .returned (.int .i64 r) ∧ Below w.heap.size w w'

/-- A cell that is not right. -/
def badCell (s : ByteArray) : Bool := !cellB s


end Go.Proofs.YtfimopcklknekaaGreatDoor
