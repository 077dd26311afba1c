/- Patterns: what an item, a list of items reach; by the reckoner: what is stated. -/
import Derived.Test.YtdegegajoccdjaaGiL
namespace Go.Proofs.Ytdegegajoccdjaa
open Go.RowKit
set_option linter.unusedVariables false
set_option linter.unusedSimpArgs false

noncomputable abbrev nowV (s : ByteArray) (p : PatT) (bs : List Bool) (k : Nat) : List Bool := nowL s.data.toList p bs k
noncomputable abbrev reachV (s : ByteArray) (p : PatT) (bs : List Bool) (k : Nat) : List Bool := reachL s.data.toList p bs 0 k
noncomputable abbrev restV (s : ByteArray) (p : PatT) (bs : List Bool) : List Bool := restL s.data.toList p bs
noncomputable def gib0 (f : Nat) : List (FuncId × Entry) := (62, E_once f) :: (61, E_CloB) :: ghb0
abbrev aOwN (slot : Nat) (l : List Bool) : AV × Option Ob := (.own (4096 * slot), some (.lst 1 4 l.length (l.map PV.bool) false))
abbrev lp_item : List (Nat × List Nat × List Nat) := [(3, [3, 4, 7, 13, 14], [3, 4, 7]), (8, [3, 4, 7, 8, 9], [8]), (1000001, [1600672], [])]
noncomputable def LO_item_3 (f : Nat) (ls : LS) : List (Bool × Ex × LS) := match ls with
  | [(.ptr x3 0, some (.box [.pv (.str s)])), (.ptr x4 0, some (.box [.pv (.int .i64 lo), .pv (.int .i64 hi), .pv (.str c), .pv (.str t), .pv (p_al)])), (.own x7, some (.lst 1 e_a n_a l_a true)), (.pv (.int .i64 n), none), (.pv (.int .i64 i), none)] =>
    [(isAl p_al && isBL (.sl n_a l_a) && Nat.beq x3 12288 && Nat.beq x4 16384 && Nat.beq x7 28672 && Nat.beq e_a 4 && (n == (lo)) && (i == (0)) && decide (f ≤ 3) && itemB f (.mk lo hi c t (asAl p_al)) && decide ((asBL (.sl n_a l_a)).length = s.size + 1) && decide (s.size ≤ 64) && holds (shP1 (.mk lo hi c t (asAl p_al))), .exit 0, [aBx 3 [.pv (.str s)], aBx 4 [.pv (.int .i64 lo), .pv (.int .i64 hi), .pv (.str c), .pv (.str t), .pv (pAl (asAl p_al))], aOwB 7 (nowV s (.mk lo hi c t (asAl p_al)) (asBL (.sl n_a l_a)) lo.toNat)])]
  | _ => []
noncomputable def LO_item_8 (f : Nat) (ls : LS) : List (Bool × Ex × LS) := match ls with
  | [(.ptr x3 0, some (.box [.pv (.str s)])), (.ptr x4 0, some (.box [.pv (.int .i64 lo), .pv (.int .i64 hi), .pv (.str c), .pv (.str t), .pv (p_al)])), (.own x7, some (.lst 1 e_a n_a l_a false)), (.own x8, some (.lst 1 e_r n_r l_r true)), (.pv (.int .i64 k), none)] =>
    [(isAl p_al && isBL (.sl n_a l_a) && isBL (.sl n_r l_r) && Nat.beq x3 12288 && Nat.beq x4 16384 && Nat.beq x7 28672 && Nat.beq e_a 4 && Nat.beq x8 32768 && Nat.beq e_r 4 && (k == (lo)) && decide (f ≤ 3) && itemB f (.mk lo hi c t (asAl p_al)) && decide ((asBL (.sl n_a l_a)).length = s.size + 1) && decide (s.size ≤ 64) && holds (shP1 (.mk lo hi c t (asAl p_al))) && holds ((asBL (.sl n_r l_r)) = (asBL (.sl n_a l_a))), .exit 2, [aOwB 8 (restV s (.mk lo hi c t (asAl p_al)) (asBL (.sl n_a l_a)))])]
  | _ => []
noncomputable def LO_item (f : Nat) : LoopT := fun k ls => bif Nat.beq k 3 then LO_item_3 f ls else bif Nat.beq k 8 then LO_item_8 f ls else []
noncomputable def r_item (br : Br) (f : Nat) (s : ByteArray) (lo : Int) (hi : Int) (c : ByteArray) (t : ByteArray) (al : List (List PatT)) (a : List Bool) (n : Int) (i : Int) := rdB br Try.prog (gib0 f) lp_item (LO_item f) Try.f53 3 [] [aBx 3 [.pv (.str s)], aBx 4 [.pv (.int .i64 lo), .pv (.int .i64 hi), .pv (.str c), .pv (.str t), .pv ((pAl al))], ((.own 28672, some (.lst 1 4 a.length (List.map PV.bool a) true)) : AV × Option Ob), aP (.int .i64 n), aP (.int .i64 i)]
noncomputable def r_item2 (br : Br) (f : Nat) (s : ByteArray) (lo : Int) (hi : Int) (c : ByteArray) (t : ByteArray) (al : List (List PatT)) (a : List Bool) (r : List Bool) (k : Int) := rdB br Try.prog (gib0 f) lp_item (LO_item f) Try.f53 8 [] [aBx 3 [.pv (.str s)], aBx 4 [.pv (.int .i64 lo), .pv (.int .i64 hi), .pv (.str c), .pv (.str t), .pv ((pAl al))], ((.own 28672, some (.lst 1 4 a.length (List.map PV.bool a) false)) : AV × Option Ob), ((.own 32768, some (.lst 1 4 r.length (List.map PV.bool r) true)) : AV × Option Ob), aP (.int .i64 k)]
noncomputable def q_item (br : Br) (f : Nat) (s : ByteArray) (p : PatT) (b : List Bool) := evB br Try.prog (gib0 f) lp_item (LO_item f) Try.f53 [cP (.agg [.str s]), cP ((pP1 p)), cP ((pBL b))]
noncomputable def E_item (f : Nat) : Entry := fun ivs => match ivs with
  | [.cv (.pv (.agg [.str s])), .cv (.pv (p_p)), .cv (.pv (p_b))] =>
    [(isP1 p_p && isBL p_b && decide (f ≤ 3) && itemB f (asP1 p_p) && decide ((asBL p_b).length = s.size + 1) && decide (s.size ≤ 64), lB (itemV s (asP1 p_p) (asBL p_b)), [])]
  | _ => []
noncomputable def gib1 (f : Nat) : List (FuncId × Entry) := (53, E_item f) :: ghb0
abbrev lp_all : List (Nat × List Nat × List Nat) := [(2, [2, 3, 9, 10, 11], [2])]
noncomputable def LO_all_2 (f : Nat) (ls : LS) : List (Bool × Ex × LS) := match ls with
  | [(.pv (p_b), none), (.ptr x3 0, some (.box [.pv (.str s)])), (.pv (p_l), none), (.pv (.int .i64 n), none), (.pv (.int .i64 i), none)] =>
    [(isBL p_b && isPt p_l && Nat.beq x3 12288 && (n == ((asPt p_l).length)) && (i == (0)) && decide (f ≤ 3) && itemsB f (asPt p_l) && decide ((asBL p_b).length = s.size + 1) && decide (s.size ≤ 64), .exit 0, [aOwB 2 (allV s (asPt p_l) (asBL p_b))])]
  | _ => []
noncomputable def LO_all (f : Nat) : LoopT := fun k ls => bif Nat.beq k 2 then LO_all_2 f ls else []
noncomputable def r_all (br : Br) (f : Nat) (b : List Bool) (s : ByteArray) (l : List PatT) (n : Int) (i : Int) := rdB br Try.prog (gib1 f) lp_all (LO_all f) Try.f36 2 [] [aP ((pBL b)), aBx 3 [.pv (.str s)], aP ((pPt l)), aP (.int .i64 n), aP (.int .i64 i)]
noncomputable def r_allM (br : Br) (f : Nat) (a : List Bool) (s : ByteArray) (l : List PatT) (n : Int) (i : Int) := rdB br Try.prog (gib1 f) lp_all (LO_all f) Try.f36 2 [] [((.own 8192, some (.lst 1 4 a.length (List.map PV.bool a) true)) : AV × Option Ob), aBx 3 [.pv (.str s)], aP ((pPt l)), aP (.int .i64 n), aP (.int .i64 i)]
noncomputable def q_all (br : Br) (f : Nat) (s : ByteArray) (l : List PatT) (b : List Bool) := evB br Try.prog (gib1 f) lp_all (LO_all f) Try.f36 [cP (.agg [.str s]), cP ((pPt l)), cP ((pBL b))]
noncomputable def E_all (f : Nat) : Entry := fun ivs => match ivs with
  | [.cv (.pv (.agg [.str s])), .cv (.pv (p_l)), .cv (.pv (p_b))] =>
    [(isPt p_l && isBL p_b && decide (f ≤ 3) && itemsB f (asPt p_l) && decide ((asBL p_b).length = s.size + 1) && decide (s.size ≤ 64), lB (allV s (asPt p_l) (asBL p_b)), [])]
  | _ => []
end Go.Proofs.Ytdegegajoccdjaa
