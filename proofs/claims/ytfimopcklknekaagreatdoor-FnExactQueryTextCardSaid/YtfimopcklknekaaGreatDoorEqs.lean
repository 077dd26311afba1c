/- Slices of strings, compared: written by wip/gen/eqloops.py. -/
import Derived.Test.YtfimopcklknekaaGreatDoorStrs
namespace Go.Proofs.YtfimopcklknekaaGreatDoor
open Go.RowKit
set_option linter.unusedVariables false


end Go.Proofs.YtfimopcklknekaaGreatDoor
