/- strings.Builder's writing methods, by the reckoner: what is stated. -/
import Derived.Test.YtdegegajoccdjaaVxB
namespace Go.Proofs.Ytdegegajoccdjaa
open Go.RowKit
set_option linter.unusedVariables false
set_option linter.unusedSimpArgs false

noncomputable def vyb0 : List (FuncId × Entry) := [(59, E_copyCheck)]
abbrev lp_ws : List (Nat × List Nat × List Nat) := [(1000000, [], [12])]
noncomputable def q_ws0 (br : Br) (s : ByteArray) := evB br Try.prog vyb0 lp_ws LO0 Try.f46 [.box 0 bld0, cS s]
noncomputable def q_ws (br : Br) (t s : ByteArray) := evB br Try.prog vyb0 lp_ws LO0 Try.f46 [.box 0 (bldB t), cS s]
noncomputable def E_bldWrite : Entry := fun ivs => match ivs with
  | [.box 0 [.al a, .pv .nils], .cv (.pv (.str s))] => [(Nat.beq a (4 * bldT + 3) && holds (s.size ≤ 100000000), .tup [cI s.size, .cv .bad], [bldB s])]
  | [.box 0 [.al a, .lst 1 e n l false], .cv (.pv (.str s))] => [(Nat.beq a (4 * bldT + 1) && Nat.beq e 5 && isBy (.sl n l) && holds ((asBy (.sl n l)).size + s.size ≤ 100000000), .tup [cI s.size, .cv .bad], [bldB (asBy (.sl n l) ++ s)])]
  | _ => []
end Go.Proofs.Ytdegegajoccdjaa
