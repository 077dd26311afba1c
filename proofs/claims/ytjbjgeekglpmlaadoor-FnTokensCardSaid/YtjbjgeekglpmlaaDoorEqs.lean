/- Slices of strings, compared: written by wip/gen/eqloops.py. -/
import Derived.Test.YtjbjgeekglpmlaaDoorStrs
namespace Go.Proofs.YtjbjgeekglpmlaaDoor
open Go.RowKit
set_option linter.unusedVariables false


end Go.Proofs.YtjbjgeekglpmlaaDoor
