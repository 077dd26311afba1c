/- Lines of characters drawn, by the reckoner: what is stated. -/
import Derived.Test.YtjbjgeekglpmlaaDoorDsQ
namespace Go.Proofs.YtjbjgeekglpmlaaDoor
open Go.RowKit
set_option linter.unusedVariables false
def dab4 : List (FuncId × Entry) := (17, E_line) :: dab3
def E_chars : Entry := fun ivs => match ivs with | [.cv (.pv (.sl n l))] => [(wfB n l && decide (n ≤ 1048576), cS (lineV l 0), [])] | _ => []
noncomputable def q_chars (br : Br) (n : Nat) (l : List PV) := evB br Tryd.prog dab4 [] LO0 Tryd.f7 [.cv (.pv (.sl n l))]
end Go.Proofs.YtjbjgeekglpmlaaDoor
