/- Patterns: what matches, by the reckoner: what is stated. -/
import Derived.Test.YtdegegajoccdjaaGeW
namespace Go.Proofs.Ytdegegajoccdjaa
open Go.RowKit
set_option linter.unusedVariables false
set_option linter.unusedSimpArgs false

abbrev pBL (xs : List Bool) : PV := .sl xs.length (xs.map PV.bool)
theorem map_bool_inj : ∀ {xs ys : List Bool}, xs.map PV.bool = ys.map PV.bool → xs = ys
  | [], [], _ => rfl
  | [], _ :: _, h => by cases h
  | _ :: _, [], h => by cases h
  | x :: xs, y :: ys, h => by
    rw [List.map_cons, List.map_cons] at h
    injection h with h1 h2
    injection h1 with h1
    rw [h1, map_bool_inj h2]
theorem pBL_inj (xs ys : List Bool) (h : pBL xs = pBL ys) : xs = ys := by injection h with _ h; exact map_bool_inj h
def shBL (xs : List Bool) : Prop := xs.length ≤ 100000
noncomputable abbrev isBL (p : PV) : Bool := isE pBL shBL p
noncomputable abbrev asBL (p : PV) : List Bool := asE pBL p
theorem isBL_mk {xs : List Bool} (h : shBL xs) : isE pBL shBL (PV.sl xs.length (xs.map PV.bool)) = true := isE_mk (enc := pBL) h
theorem asBL_mk (xs : List Bool) : asE pBL (PV.sl xs.length (xs.map PV.bool)) = xs := asE_mk pBL_inj xs
theorem drop_bools (xs : List Bool) (i : Nat) (h : i < xs.length) : (xs.map PV.bool).drop (i * 1) = .bool xs[i] :: (xs.drop (i + 1)).map PV.bool := by
  rw [Nat.mul_one, ← List.map_drop, List.drop_eq_getElem_cons h]
  rfl
/-- Two sets together, up to a place. -/
def orTo (a b : List Bool) (i : Nat) : List Bool := orL (a.take i) (b.take i) ++ a.drop i
def moreTo (a b : List Bool) (i : Nat) : Bool := moreB (a.take i) (b.take i)
abbrev lp_join : List (Nat × List Nat × List Nat) := [(3, [0, 5, 8, 9, 10], [0, 5])]
noncomputable def LO_join_3 (ls : LS) : List (Bool × Ex × LS) := match ls with
  | [(.own x0, some (.lst 1 e_a n_a l_a true)), (.pv (.bool l), none), (.pv (p_b), none), (.pv (.int .i64 n), none), (.pv (.int .i64 i), none)] =>
    [(isBL (.sl n_a l_a) && isBL p_b && Nat.beq x0 0 && Nat.beq e_a 4 && (n == ((asBL p_b).length)) && (i == (0)) && decide ((asBL (.sl n_a l_a)).length = (asBL p_b).length) && !l, .exit 0, [((.own 0, some (.lst 1 4 n_a ((orL (asBL (.sl n_a l_a)) (asBL p_b)).map PV.bool) true)) : AV × Option Ob), aB (moreB (asBL (.sl n_a l_a)) (asBL p_b))])]
  | _ => []
noncomputable def LO_join : LoopT := fun k ls => bif Nat.beq k 3 then LO_join_3 ls else []
noncomputable def r_join (br : Br) (a : List Bool) (l : Bool) (b : List Bool) (n : Int) (i : Int) := rdB br Try.prog [] lp_join LO_join Try.f63 3 [0] [((.own 0, some (.lst 1 4 a.length (List.map PV.bool a) true)) : AV × Option Ob), aP (.bool l), aP ((pBL b)), aP (.int .i64 n), aP (.int .i64 i)]
noncomputable def q_join (br : Br) (a : List Bool) (b : List Bool) := evB br Try.prog [] lp_join LO_join Try.f63 [.lk false [] 1 4 a.length (List.map PV.bool a) [], cP ((pBL b))]
noncomputable def E_join : Entry := fun ivs => match ivs with
  | [.lk false [] 1 e_a n_a l_a [], .cv (.pv (p_b))] =>
    [(isBL (.sl n_a l_a) && isBL p_b && Nat.beq e_a 4 && decide ((asBL (.sl n_a l_a)).length = (asBL p_b).length), cB (moreB (asBL (.sl n_a l_a)) (asBL p_b)), [[.lst 1 4 (asBL (.sl n_a l_a)).length ((orL (asBL (.sl n_a l_a)) (asBL p_b)).map PV.bool) true]])]
  | _ => []
end Go.Proofs.Ytdegegajoccdjaa
