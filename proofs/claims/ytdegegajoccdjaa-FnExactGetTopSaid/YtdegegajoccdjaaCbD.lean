/- Superblocks read by the program, and the law, by the reckoner: what is stated. -/
import Derived.Test.YtdegegajoccdjaaCaP
namespace Go.Proofs.Ytdegegajoccdjaa
open Go.RowKit
set_option linter.unusedVariables false
set_option linter.unusedSimpArgs false

noncomputable def E_ITop : Entry := fun ivs => match ivs with
  | [.lk true [.int .i64 a, .int .i64 b, .int .i64 c] 2 e n l []] => [(isSes (.sl n l) && Nat.beq e 50, cB (topB a b c (asSes (.sl n l))), [[.lst 2 50 n l true]])]
  | [.cv (.pv (.agg [.int .i64 a, .int .i64 b, .int .i64 c, .sl 0 []]))] => [(true, cB (topB a b c []), [])]
  | _ => []
noncomputable def E_IPut : Entry := fun ivs => match ivs with
  | [.lk true [.int .i64 a, .int .i64 b, .int .i64 c] 2 e n l []] => [(isSes (.sl n l) && Nat.beq e 50, cS (putV a b c (asSes (.sl n l))), [[.lst 2 50 n l true]])]
  | [.cv (.pv (.agg [.int .i64 a, .int .i64 b, .int .i64 c, .sl 0 []]))] => [(true, cS (putV a b c []), [])]
  | _ => []
noncomputable def cbb0 : List (FuncId × Entry) := (25, E_take) :: (26, E_rone) :: (24, E_number) :: (23, E_Un) :: (27, E_ITop) :: [(28, E_IPut)]
noncomputable def rdS : Nat → ByteArray → List SeT → ByteArray × Bool × List SeT
  | 0, r, l => (r, false, l)
  | n + 1, r, l => if tkB (tkR r 1) (tkB r false 1) 2 = true then (tkR (tkR r 1) 2, true, l ++ [⟨numV (tkS r 1), numV (tkS (tkR r 1) 2)⟩]) else rdS n (tkR (tkR r 1) 2) (l ++ [⟨numV (tkS r 1), numV (tkS (tkR r 1) 2)⟩])
abbrev lp_IGet : List (Nat × List Nat × List Nat) := [(8, [0, 2, 7, 8, 9], [0, 2, 7, 8]), (2000050, [8, 3, 51], []), (1000000, [58], [65, 70, 76]), (1000001, [1601056, 1601136], [])]
noncomputable def LO_IGet : LoopT := fun _ ls => match ls with
  | [(.pv (.str s), none), (.ptr x 0, some (.box [.pv (.int .i64 z1), .pv (.int .i64 z2), .pv (.int .i64 z3), .pv .nils])), (.ptr y 0, some (.box [.pv (.str r), .pv (.bool d)])), (.ptr z 0, some (.box [.pv (.int .i64 a), .pv (.int .i64 b), .pv (.int .i64 c), .pv .nils])), (.pv (.int .i64 n), none)] =>
    [(Nat.beq x 8192 && Nat.beq y 28672 && Nat.beq z 32768 && (z1 == 0) && (z2 == 0) && (z3 == 0) && (d || decide (n ≤ 0)), .exit 0, [aS s, zT 2, aBx 7 (rdr r d), bxN 8 a b c]),
     (Nat.beq x 8192 && Nat.beq y 28672 && Nat.beq z 32768 && (z1 == 0) && (z2 == 0) && (z3 == 0) && decide (n ≤ 255) && holds (r.size ≤ 2000000), .exit 0, [aS s, zT 2, aBx 7 (rdr (rdS n.toNat r []).1 (rdS n.toNat r []).2.1), bxL 8 a b c (rdS n.toNat r []).2.2 true])]
  | _ => []
noncomputable def r_IGet0 (br : Br) (s r : ByteArray) (d : Bool) (a b c n : Int) := rdB br Try.prog cbb0 lp_IGet LO_IGet Try.f11 8 [] [aS s, zT 2, aBx 7 (rdr r d), bxN 8 a b c, aI n]
noncomputable def r_IGet (br : Br) (s r : ByteArray) (d : Bool) (a b c : Int) (l : List SeT) (n : Int) := rdB br Try.prog cbb0 lp_IGet LO_IGet Try.f11 8 [] [aS s, zT 2, aBx 7 (rdr r d), bxL 8 a b c l true, aI n]
noncomputable def q_IGet (br : Br) (s : ByteArray) := evB br Try.prog cbb0 lp_IGet LO_IGet Try.f11 [cS s]
noncomputable def E_IGet : Entry := fun ivs => match ivs with
  | [.cv (.pv (.str s))] =>
    [(decide (s.size ≤ 2000000) && okG s && Nat.beq (cntV (midG s)) 0, .tup [.agg [.pv (.int .i64 (seqG s)), .pv (.int .i64 (rootG s)), .pv (.int .i64 (countG s)), .pv .nils], cB true], []),
     (decide (s.size ≤ 2000000) && okG s, .tup [.agg [.pv (.int .i64 (seqG s)), .pv (.int .i64 (rootG s)), .pv (.int .i64 (countG s)), .lst 2 50 (seatsG s).length (encSe (seatsG s)) true], cB true], []),
     (decide (s.size ≤ 2000000), .tup [.agg [.pv (.int .i64 0), .pv (.int .i64 0), .pv (.int .i64 0), .pv .nils], cB false], [])]
  | _ => []
end Go.Proofs.Ytdegegajoccdjaa
