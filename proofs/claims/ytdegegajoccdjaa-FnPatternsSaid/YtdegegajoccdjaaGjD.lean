/- Patterns: the match of a whole text; by the reckoner: what is stated. -/
import Derived.Test.YtdegegajoccdjaaGiP
namespace Go.Proofs.Ytdegegajoccdjaa
open Go.RowKit
set_option linter.unusedVariables false
set_option linter.unusedSimpArgs false

noncomputable def gjb0 : List (FuncId × Entry) := (36, E_all 3) :: []
abbrev lp_matches : List (Nat × List Nat × List Nat) := [(1000000, [9], [])]
noncomputable def q_matches (br : Br) (s : ByteArray) (l : List PatT) := evB br Try.prog gjb0 lp_matches LO0 Try.f18 [cP (.str s), cP ((pPt l))]
noncomputable def E_matches : Entry := fun ivs => match ivs with
  | [.cv (.pv (.str s)), .cv (.pv (p_l))] =>
    [(isPt p_l && itemsB 3 (asPt p_l) && decide (s.size ≤ 64), cB (matchB s.data.toList (asPt p_l)), [])]
  | _ => []
noncomputable def gjb1 : List (FuncId × Entry) := (18, E_matches) :: (9, E_PatternOk) :: []
noncomputable def q_MatchPattern (br : Br) (s : ByteArray) (l : List PatT) := evB br Try.prog gjb1 [] LO0 Try.f8 [cP (.str s), cP ((pPt l))]
noncomputable def E_MatchPattern : Entry := fun ivs => match ivs with
  | [.cv (.pv (.str s)), .cv (.pv (p_l))] =>
    [(isPt p_l, cB (decide (s.size ≤ 64) && (itemsB 3 (asPt p_l) && matchB s.data.toList (asPt p_l))), [])]
  | _ => []
end Go.Proofs.Ytdegegajoccdjaa
