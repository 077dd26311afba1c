/- TopOk of the program, by the reckoner: what is stated. -/
import Derived.Test.YtdegegajoccdjaaCbD
namespace Go.Proofs.Ytdegegajoccdjaa
open Go.RowKit
set_option linter.unusedVariables false
set_option linter.unusedSimpArgs false

noncomputable def E_seatsOk : Entry := fun ivs => match ivs with
  | [.lk false [] 2 e n l []] => [(isSes (.sl n l) && Nat.beq e 50, cB (seatsB (asSes (.sl n l))), [[.lst 2 50 n l true]])]
  | [.cv (.pv (.sl 0 []))] => [(true, cB (seatsB []), [])]
  | _ => []
noncomputable def cdb0 : List (FuncId × Entry) := (37, E_within) :: [(45, E_seatsOk)]
abbrev lp_ITop : List (Nat × List Nat × List Nat) := [(1000000, [], [1]), (1000001, [1600304], [])]
noncomputable def q_ITop (br : Br) (a b c : Int) (l : List SeT) := evB br Try.prog cdb0 lp_ITop LO0 Try.f27 [lkT a b c l]
noncomputable def q_ITop0 (br : Br) (a b c : Int) := evB br Try.prog cdb0 lp_ITop LO0 Try.f27 [cP (pTop a b c [])]
end Go.Proofs.Ytdegegajoccdjaa
