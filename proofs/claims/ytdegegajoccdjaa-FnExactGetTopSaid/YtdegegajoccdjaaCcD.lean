/- The law of superblocks, by the reckoner: what is stated. -/
import Derived.Test.YtdegegajoccdjaaCbD
namespace Go.Proofs.Ytdegegajoccdjaa
open Go.RowKit
set_option linter.unusedVariables false
set_option linter.unusedSimpArgs false

noncomputable def cbb1 : List (FuncId × Entry) := (10, E_SGet) :: (11, E_IGet) :: (12, E_eqT) :: (13, E_markT) :: [(14, E_heldT)]
abbrev lp_law : List (Nat × List Nat × List Nat) := [(1000000, [], [24, 33, 36, 49, 58]), (1000001, [1600416, 1600560, 1600608, 1600816, 1600960], [])]
noncomputable def q_law (br : Br) (s : ByteArray) := evB br Try.prog cbb1 lp_law LO0 Try.f4 [cS s]
end Go.Proofs.Ytdegegajoccdjaa
