/- Slices of strings, compared: written by wip/gen/eqloops.py. -/
import Derived.Test.YtfimopcklknekaaDoorStrs
namespace Go.Proofs.YtfimopcklknekaaDoor
open Go.RowKit
set_option linter.unusedVariables false


end Go.Proofs.YtfimopcklknekaaDoor
