/- PutTop of the program, by the reckoner: what is stated. -/
import Derived.Test.YtdegegajoccdjaaCdP
import Derived.Test.YtdegegajoccdjaaVyP
namespace Go.Proofs.Ytdegegajoccdjaa
open Go.RowKit
set_option linter.unusedVariables false
set_option linter.unusedSimpArgs false

noncomputable abbrev aBld (slot : Nat) (s : ByteArray) : AV × Option Ob := aBx slot (bldB s)
noncomputable def q_countS (br : Br) (n : Nat) (l : List PV) := evB br Try.prog [] [] LO0 Try.f48 [cP (.sl n l)]
noncomputable def E_countS : Entry := fun ivs => match ivs with
  | [.cv (.pv (.sl n l))] => [(true, cI n, [])]
  | _ => []
noncomputable def cib0 : List (FuncId × Entry) := (27, E_ITop) :: (47, E_little) :: (48, E_countS) :: (46, E_bldWrite) :: (50, E_bldString) :: [(49, E_St)]
abbrev lp_IPut : List (Nat × List Nat × List Nat) := [(6, [0, 1, 3, 23, 24, 25], [0, 1, 3]), (1000000, [3], [1]), (1000001, [1600112], [])]
abbrev kS (l : List SeT) : AV × Option Ob := (.bad, some (.lst 2 50 l.length (encSe l) true))
abbrev bxB (slot : Nat) (a b c : Int) : AV × Option Ob := aBx slot [.pv (.int .i64 a), .pv (.int .i64 b), .pv (.int .i64 c), .bad]
noncomputable def LO_IPut : LoopT := fun _ ls => match ls with
  | [(.bad, some (.lst 2 e n l true)), (.ptr x 0, some (.box [.pv (.int .i64 a), .pv (.int .i64 b), .pv (.int .i64 c), .bad])), (.ptr y 0, some (.box [.al q, .lst 1 e2 n2 l2 false])), (.own z, none), (.pv (.int .i64 m), none), (.pv (.int .i64 i), none)] =>
    [(isSes (.sl n l) && Nat.beq e 50 && Nat.beq x 4096 && Nat.beq y 12288 && Nat.beq q (4 * bldT + 1) && Nat.beq e2 5 && isBy (.sl n2 l2) && Nat.beq z 0 && (m == ((asSes (.sl n l)).length : Int)) && (i == 0) && seatsB (asSes (.sl n l)) && holds ((asBy (.sl n2 l2)).size ≤ 10), .exit 0, [kS (asSes (.sl n l)), bxB 1 a b c, aBld 3 (seatsTxt (asBy (.sl n2 l2)) (asSes (.sl n l)))])]
  | _ => []
noncomputable def LO_IPut0 : LoopT := fun _ ls => match ls with
  | [(.pv p, none), (.ptr x 0, some (.box [.pv (.int .i64 a), .pv (.int .i64 b), .pv (.int .i64 c), .pv (.sl 0 [])])), (.ptr y 0, some (.box [.al q, .lst 1 e2 n2 l2 false])), (.pv (.sl 0 []), none), (.pv (.int .i64 m), none), (.pv (.int .i64 i), none)] =>
    [(Nat.beq x 4096 && Nat.beq y 12288 && Nat.beq q (4 * bldT + 1) && Nat.beq e2 5 && isBy (.sl n2 l2) && (m == 0) && (i == 0), .exit 0, [aP p, aBx 1 [.pv (.int .i64 a), .pv (.int .i64 b), .pv (.int .i64 c), .pv (.sl 0 [])], aBld 3 (asBy (.sl n2 l2))])]
  | _ => []
noncomputable def r_IPut (br : Br) (a b c : Int) (l : List SeT) (s : ByteArray) (i : Int) := rdB br Try.prog cib0 lp_IPut LO_IPut Try.f28 6 [0] [kS l, bxB 1 a b c, aBld 3 s, ((.own 0, none) : AV × Option Ob), aI l.length, aI i]
noncomputable def r_IPut0 (br : Br) (p : PV) (a b c : Int) (s : ByteArray) := rdB br Try.prog cib0 lp_IPut LO_IPut0 Try.f28 6 [] [aP p, aBx 1 [.pv (.int .i64 a), .pv (.int .i64 b), .pv (.int .i64 c), .pv (.sl 0 [])], aBld 3 s, aP (.sl 0 []), aI 0, aI 0]
noncomputable def q_IPut (br : Br) (a b c : Int) (l : List SeT) := evB br Try.prog cib0 lp_IPut LO_IPut Try.f28 [lkT a b c l]
noncomputable def q_IPut0 (br : Br) (a b c : Int) := evB br Try.prog cib0 lp_IPut LO_IPut0 Try.f28 [cP (pTop a b c [])]
noncomputable def E_IPut1 : Entry := fun ivs => match ivs with
  | [.lk true [.int .i64 a, .int .i64 b, .int .i64 c] 2 e n l []] => [(isSes (.sl n l) && Nat.beq e 50, cS (putV a b c (asSes (.sl n l))), [[.lst 2 50 n l true]])]
  | _ => []
noncomputable def E_IPut0 : Entry := fun ivs => match ivs with
  | [.cv (.pv (.agg [.int .i64 a, .int .i64 b, .int .i64 c, .sl 0 []]))] => [(true, cS (putV a b c []), [])]
  | _ => []
end Go.Proofs.Ytdegegajoccdjaa
