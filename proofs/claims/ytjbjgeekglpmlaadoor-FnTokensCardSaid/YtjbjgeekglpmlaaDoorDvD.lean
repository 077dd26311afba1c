/- The reference's Tokens, by the reckoner: what is stated. -/
import Derived.Test.YtjbjgeekglpmlaaDoorDuP
namespace Go.Proofs.YtjbjgeekglpmlaaDoor
open Go.RowKit
set_option linter.unusedVariables false
abbrev lp_tokS : List (Nat × List Nat × List Nat) := [(5, [0, 4, 5], [2, 3])]
def endC (p : Nat) : List PV := [.int .i64 6, .str ⟨#[]⟩, .int .i64 p]
def LO_tokS : LoopT := fun _ ls => match ls with
  | [(.pv (.str s), none), (.own x, some (.lst 3 e n l false)), (.pv (.int .i64 i), none)] =>
    [(okI s i && decide (n ≤ i.toNat) && Nat.beq l.length (n * 3) && Nat.beq x 16384 && Nat.beq e 31 && (toksF i.toNat (SL s i)).2.2, .ret, [aL 2 3 31 (n + cntF i.toNat (SL s i) + 1) (l ++ (toksF i.toNat (SL s i)).1 ++ endC (toksF i.toNat (SL s i)).2.1), aI 0]),
      (okI s i && decide (n ≤ i.toNat) && Nat.beq l.length (n * 3) && Nat.beq x 16384 && Nat.beq e 31, .ret, [aL 2 3 31 0 [], aI 6])]
  | _ => []
noncomputable def r_tokS (br : Br) (s : ByteArray) (n : Nat) (l : List PV) (i : Int) := rdB br Tryd.prog tab2 lp_tokS LO_tokS Tryd.f9 5 [] [aS s, aL 4 3 31 n l, aI i]
noncomputable def q_tokS (br : Br) (s : ByteArray) := evB br Tryd.prog tab2 lp_tokS LO_tokS Tryd.f9 [cS s]
def E_tokS : Entry := fun ivs => match ivs with
  | [.cv (.pv (.str s))] => [(decide ((s.size : Int) > 120) && decide (s.size ≤ 1048576), .tup [.cv (.lst 3 31 0 [] false), cI 4], []), (decide ((s.size : Int) ≤ 120) && allT s, .tup [.cv (.lst 3 31 (cntT s) (cellsT s) false), cI 0], []), (decide ((s.size : Int) ≤ 120), .tup [.cv (.lst 3 31 0 [] false), cI 6], [])]
  | _ => []
end Go.Proofs.YtjbjgeekglpmlaaDoor
