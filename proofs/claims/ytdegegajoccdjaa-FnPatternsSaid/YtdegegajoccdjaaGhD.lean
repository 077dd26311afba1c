/- Patterns: what one match, an item, a list of items reach; by the reckoner: what is stated. -/
import Derived.Test.YtdegegajoccdjaaGhL
namespace Go.Proofs.Ytdegegajoccdjaa
open Go.RowKit
set_option linter.unusedVariables false
set_option linter.unusedSimpArgs false

noncomputable def E_HPre : Entry := fun ivs => match ivs with | [.cv (.pv (.str a)), .cv (.pv (.str b))] => [(true, cB (Lib.hasPrefix a.data.toList b.data.toList), [])] | _ => []
noncomputable def ghb0 : List (FuncId × Entry) := (71, E_HPre) :: (68, E_ConC) :: (63, E_join) :: []
abbrev lB (l : List Bool) : IV := .cv (.lst 1 4 l.length (l.map PV.bool) true)
noncomputable def q_CloB (br : Br) (x : Bool) (t : List Bool) := evB br Try.prog [] [(1000000, [5, 7], [])] LO0 Try.f61 [cP (.sl (t.length + 1) (.bool x :: t.map .bool))]
noncomputable def E_CloB : Entry := fun ivs => match ivs with | [.cv (.pv p)] => [(isBL p && decide (1 ≤ (asBL p).length), lB (asBL p), [])] | _ => []
/-- The text's box is captured from the first search on. -/
def hitB (bs : List Bool) (n : Nat) (c : ByteArray) (i : Nat) : Bool := decide (c.size ≠ 0) && ((bs.take n).drop i).any id
noncomputable abbrev onceV (s : ByteArray) (p : PatT) (bs : List Bool) : List Bool := imgL s.data.toList.length (OnceR s.data.toList p) bs
noncomputable abbrev allV (s : ByteArray) (l : List PatT) (bs : List Bool) : List Bool := allL s.data.toList l bs
noncomputable abbrev itemV (s : ByteArray) (p : PatT) (bs : List Bool) : List Bool := itemL s.data.toList p bs
noncomputable abbrev firstV (s : ByteArray) (c t : ByteArray) (bs : List Bool) (i : Nat) : List Bool := firstTo s.data.toList (.mk 0 0 c t []) bs i
noncomputable abbrev altV (s : ByteArray) (al : List (List PatT)) (bs : List Bool) : List Bool := altU s.data.toList al bs
noncomputable def E_allX (f : Nat) : Entry := fun ivs => match ivs with
  | [.cv (.pv (.agg [.str s])), .cv (.pv p), .cv (.pv q)] => [(decide (0 < f) && isPt p && itemsB (f - 1) (asPt p) && isBL q && decide ((asBL q).length = s.size + 1) && decide (s.size ≤ 64), lB (allV s (asPt p) (asBL q)), [])]
  | _ => []
noncomputable def ghb1 (f : Nat) : List (FuncId × Entry) := (36, E_allX f) :: ghb0
abbrev aOwB (slot : Nat) (l : List Bool) : AV × Option Ob := (.own (4096 * slot), some (.lst 1 4 l.length (l.map PV.bool) true))
abbrev aRo (slot : Nat) (l : List PV) : AV × Option Ob := (.ptr (4096 * slot) 0, some (.ro l))
noncomputable def onceC (f : Nat) (p : PatT) : Bool := decide (f ≤ 3) && itemB f p
abbrev mB (s : ByteArray) (h : Bool) : AV × Option Ob := bif h then aRo 3 [.str s] else aBx 3 [.pv (.str s)]
abbrev lp_once : List (Nat × List Nat × List Nat) := [(3, [2, 3, 4, 7, 15, 16, 17], [2, 3, 4, 7]), (14, [2, 3, 7, 64, 65, 66], [7]), (1000000, [14], []), (1000001, [1601200], [])]
noncomputable def LO_once_3 (f : Nat) (ls : LS) : List (Bool × Ex × LS) := match ls with
  | [(.pv (q), none), (.ptr x3 0, some (.box [.pv (.str s)])), (.ptr x4 0, some (.box [.pv (.int .i64 lo), .pv (.int .i64 hi), .pv (.str c), .pv (.str t), .pv (al)])), (.own x7, some (.lst 1 e_a n_a l_a true)), (.pv (p_b), none), (.pv (.int .i64 n), none), (.pv (.int .i64 i), none)] =>
    [(isBL (.sl n_a l_a) && isBL p_b && Nat.beq x3 12288 && Nat.beq x4 16384 && Nat.beq x7 28672 && Nat.beq e_a 4 && (n == ((asBL p_b).length)) && (i == (0)) && decide (c.size = 0 ∨ codesB c = true) && decide ((asBL p_b).length = s.size + 1) && decide (s.size ≤ 64) && decide (c.size ≤ 1000000) && decide (t.size ≤ 1000000) && holds ((asBL (.sl n_a l_a)) = firstV s c t (asBL p_b) 0) && hitB (asBL p_b) s.size c 0, .exit 0, [aP q, aRo 3 [.str s], aBx 4 [.pv (.int .i64 lo), .pv (.int .i64 hi), .pv (.str c), .pv (.str t), .pv al], aOwB 7 (firstV s c t (asBL p_b) (asBL p_b).length)]),
     (isBL (.sl n_a l_a) && isBL p_b && Nat.beq x3 12288 && Nat.beq x4 16384 && Nat.beq x7 28672 && Nat.beq e_a 4 && (n == ((asBL p_b).length)) && (i == (0)) && decide (c.size = 0 ∨ codesB c = true) && decide ((asBL p_b).length = s.size + 1) && decide (s.size ≤ 64) && decide (c.size ≤ 1000000) && decide (t.size ≤ 1000000) && holds ((asBL (.sl n_a l_a)) = firstV s c t (asBL p_b) 0) && !hitB (asBL p_b) s.size c 0, .exit 0, [aP q, aBx 3 [.pv (.str s)], aBx 4 [.pv (.int .i64 lo), .pv (.int .i64 hi), .pv (.str c), .pv (.str t), .pv al], aOwB 7 (firstV s c t (asBL p_b) (asBL p_b).length)])]
  | _ => []
noncomputable def LO_once_14 (f : Nat) (ls : LS) : List (Bool × Ex × LS) := match ls with
  | [(.pv (p_b), none), (.ptr x3 0, some (.box [.pv (.str s)])), (.own x7, some (.lst 1 e_a n_a l_a true)), (.pv (p_al), none), (.pv (.int .i64 n), none), (.pv (.int .i64 k), none)] =>
    [(isBL p_b && isBL (.sl n_a l_a) && isAl p_al && Nat.beq x3 12288 && Nat.beq x7 28672 && Nat.beq e_a 4 && (n == ((asAl p_al).length)) && (k == (0)) && decide ((asBL p_b).length = s.size + 1) && decide (s.size ≤ 64) && altsB (f - 1) (asAl p_al) && decide (0 < f ∨ (asAl p_al) = []) && decide ((asBL (.sl n_a l_a)).length = s.size + 1), .exit 3, [aOwB 7 (orL (asBL (.sl n_a l_a)) (altV s (asAl p_al) (asBL p_b)))])]
  | [(.pv (p_b), none), (.ptr x3 0, some (.ro [.str s])), (.own x7, some (.lst 1 e_a n_a l_a true)), (.pv (p_al), none), (.pv (.int .i64 n), none), (.pv (.int .i64 k), none)] =>
    [(isBL p_b && isBL (.sl n_a l_a) && isAl p_al && Nat.beq x3 12288 && Nat.beq x7 28672 && Nat.beq e_a 4 && (n == ((asAl p_al).length)) && (k == (0)) && decide ((asBL p_b).length = s.size + 1) && decide (s.size ≤ 64) && altsB (f - 1) (asAl p_al) && decide (0 < f ∨ (asAl p_al) = []) && decide ((asBL (.sl n_a l_a)).length = s.size + 1), .exit 3, [aOwB 7 (orL (asBL (.sl n_a l_a)) (altV s (asAl p_al) (asBL p_b)))])]
  | _ => []
noncomputable def LO_once (f : Nat) : LoopT := fun k ls => bif Nat.beq k 3 then LO_once_3 f ls else bif Nat.beq k 14 then LO_once_14 f ls else []
noncomputable def r_once (br : Br) (f : Nat) (q : PV) (s : ByteArray) (lo : Int) (hi : Int) (c : ByteArray) (t : ByteArray) (al : PV) (a : List Bool) (b : List Bool) (n : Int) (i : Int) := rdB br Try.prog (ghb1 f) lp_once (LO_once f) Try.f62 3 [] [aP (q), aBx 3 [.pv (.str s)], aBx 4 [.pv (.int .i64 lo), .pv (.int .i64 hi), .pv (.str c), .pv (.str t), .pv (al)], ((.own 28672, some (.lst 1 4 a.length (List.map PV.bool a) true)) : AV × Option Ob), aP ((pBL b)), aP (.int .i64 n), aP (.int .i64 i)]
noncomputable def r_onceR (br : Br) (f : Nat) (q : PV) (s : ByteArray) (lo : Int) (hi : Int) (c : ByteArray) (t : ByteArray) (al : PV) (a : List Bool) (b : List Bool) (n : Int) (i : Int) := rdB br Try.prog (ghb1 f) lp_once (LO_once f) Try.f62 3 [] [aP (q), ((.ptr 12288 0, some (.ro [.str s])) : AV × Option Ob), aBx 4 [.pv (.int .i64 lo), .pv (.int .i64 hi), .pv (.str c), .pv (.str t), .pv (al)], ((.own 28672, some (.lst 1 4 a.length (List.map PV.bool a) true)) : AV × Option Ob), aP ((pBL b)), aP (.int .i64 n), aP (.int .i64 i)]
noncomputable def r_onceA (br : Br) (f : Nat) (b : List Bool) (s : ByteArray) (a : List Bool) (al : List (List PatT)) (n : Int) (k : Int) := rdB br Try.prog (ghb1 f) lp_once (LO_once f) Try.f62 14 [] [aP ((pBL b)), aBx 3 [.pv (.str s)], ((.own 28672, some (.lst 1 4 a.length (List.map PV.bool a) true)) : AV × Option Ob), aP ((pAl al)), aP (.int .i64 n), aP (.int .i64 k)]
noncomputable def r_onceB (br : Br) (f : Nat) (b : List Bool) (s : ByteArray) (a : List Bool) (al : List (List PatT)) (n : Int) (k : Int) := rdB br Try.prog (ghb1 f) lp_once (LO_once f) Try.f62 14 [] [aP ((pBL b)), ((.ptr 12288 0, some (.ro [.str s])) : AV × Option Ob), ((.own 28672, some (.lst 1 4 a.length (List.map PV.bool a) true)) : AV × Option Ob), aP ((pAl al)), aP (.int .i64 n), aP (.int .i64 k)]
noncomputable def q_once (br : Br) (f : Nat) (s : ByteArray) (p : PatT) (b : List Bool) := evB br Try.prog (ghb1 f) lp_once (LO_once f) Try.f62 [cP (.agg [.str s]), cP ((pP1 p)), cP ((pBL b))]
noncomputable def E_once (f : Nat) : Entry := fun ivs => match ivs with
  | [.cv (.pv (.agg [.str s])), .cv (.pv (p_p)), .cv (.pv (p_b))] =>
    [(isP1 p_p && isBL p_b && decide (f ≤ 3) && itemB f (asP1 p_p) && decide ((asBL p_b).length = s.size + 1) && decide (s.size ≤ 64), lB (onceV s (asP1 p_p) (asBL p_b)), [])]
  | _ => []
end Go.Proofs.Ytdegegajoccdjaa
