/- Slices of strings, compared: written by wip/gen/eqloops.py. -/
import Derived.Test.YtfaphgpelkkccaaStrs
namespace Go.Proofs.Ytfaphgpelkkccaa
open Go.RowKit
set_option linter.unusedVariables false


end Go.Proofs.Ytfaphgpelkkccaa
