/- Superblocks of the reference, by the reckoner: what is stated. -/
import Derived.Test.YtdegegajoccdjaaBzP
namespace Go.Proofs.Ytdegegajoccdjaa
open Go.RowKit
set_option linter.unusedVariables false
set_option linter.unusedSimpArgs false

def inB (n a b : Int) : Bool := decide (a ≤ n) && decide (n ≤ b)
def lastLt (p : List SeT) (x : SeT) : Bool := match p.getLast? with | none => true | some y => decide (y.id < x.id)
def seatOne (p : List SeT) (x : SeT) : Bool := inB x.id 1 64 && lastLt p x && inB x.slot 2 399 && p.all fun y => !(y.slot == x.slot)
def seatsC : List SeT → List SeT → Bool
  | _, [] => true
  | p, x :: t => seatOne p x && seatsC (p ++ [x]) t
def seatsB (l : List SeT) : Bool := seatsC [] (l.take 65) && decide (l.length ≤ 64)
noncomputable def cab0 : List (FuncId × Entry) := [(41, E_within)]
abbrev lp_seats : List (Nat × List Nat × List Nat) := [(2, [0, 3], [0, 2]), (7, [0, 3, 4], [0, 2, 3])]
noncomputable def LO_seats_2 (ls : LS) : List (Bool × Ex × LS) := match ls with
  | [(.pv p, none), (.pv (.int .i64 i), none)] =>
    [(isSes p && (i == 0) && seatsC [] ((asSes p).take 65), .exit 0, [aP p, aX]), (isSes p && (i == 0), .ret, [aP p, aB false])]
  | _ => []
noncomputable def LO_seats_7 (ls : LS) : List (Bool × Ex × LS) := match ls with
  | [(.pv p, none), (.pv (.int .i64 i), none), (.pv (.int .i64 k), none)] =>
    [(isSes p && decide (0 ≤ i) && decide (i < (asSes p).length) && (k == 0) && ((asSes p).take i.toNat).all (fun y => !(y.slot == ((asSes p).getD i.toNat default).slot)), .exit 2, [aP p, aX, aI i]), (isSes p && decide (0 ≤ i) && decide (i < (asSes p).length) && (k == 0), .ret, [aP p, aB false, aI i])]
  | _ => []
noncomputable def LO_seats : LoopT := fun k ls => bif Nat.beq k 2 then LO_seats_2 ls else bif Nat.beq k 7 then LO_seats_7 ls else []
noncomputable def r_seats7 (br : Br) (l : List SeT) (i k : Int) := rdB br Try.prog cab0 lp_seats LO_seats Try.f58 7 [] [aP (pSes l), aI i, aI k]
noncomputable def r_seats2 (br : Br) (l : List SeT) (i : Int) := rdB br Try.prog cab0 lp_seats LO_seats Try.f58 2 [] [aP (pSes l), aI i]
noncomputable def q_seats (br : Br) (l : List SeT) := evB br Try.prog cab0 lp_seats LO_seats Try.f58 [cP (pSes l)]
noncomputable def E_seats : Entry := fun ivs => match ivs with
  | [.cv (.pv p)] => [(isSes p, cB (seatsB (asSes p)), [])]
  | _ => []
def topB (a b c : Int) (l : List SeT) : Bool := inB a 1 2000000000 && inB b 1 64 && inB c 0 2000000000 && seatsB l
noncomputable def cab1 : List (FuncId × Entry) := (58, E_seats) :: cab0
noncomputable def q_STopOk (br : Br) (a b c : Int) (l : List SeT) := evB br Try.prog cab1 [] LO0 Try.f42 [cP (pTop a b c l)]
noncomputable def E_STopOk : Entry := fun ivs => match ivs with
  | [.cv (.pv (.agg [.int .i64 a, .int .i64 b, .int .i64 c, .sl n l]))] => [(isSes (.sl n l), cB (topB a b c (asSes (.sl n l))), [])]
  | _ => []
noncomputable def seatsTxt : ByteArray → List SeT → ByteArray
  | s, [] => s
  | s, x :: t => seatsTxt (s ++ litV x.id 1 ++ litV x.slot 2) t
noncomputable def headT (b c : Int) (l : List SeT) : ByteArray := litV b 1 ++ litV c 4 ++ litV (l.length : Int) 1
noncomputable def putV (a b c : Int) (l : List SeT) : ByteArray := if topB a b c l = true then stV (litV a 4) (seatsTxt (headT b c l) l) 1700 else ⟨#[]⟩
noncomputable def cab2 : List (FuncId × Entry) := (42, E_STopOk) :: (43, E_fix) :: [(44, E_St)]
abbrev lp_SPut : List (Nat × List Nat × List Nat) := [(5, [1, 3, 4], [1, 3])]
abbrev bxT (slot : Nat) (a b c : Int) (l : List SeT) : AV × Option Ob := aBx slot [.pv (.int .i64 a), .pv (.int .i64 b), .pv (.int .i64 c), .pv (pSes l)]
noncomputable def LO_SPut : LoopT := fun _ ls => match ls with
  | [(.ptr x 0, some (.box [.pv (.int .i64 a), .pv (.int .i64 b), .pv (.int .i64 c), .pv p])), (.pv (.str s), none), (.pv (.int .i64 i), none)] =>
    [(isSes p && Nat.beq x 4096 && (i == 0) && seatsB (asSes p) && holds (s.size ≤ 10), .exit 0, [aBx 1 [.pv (.int .i64 a), .pv (.int .i64 b), .pv (.int .i64 c), .pv p], aS (seatsTxt s (asSes p))])]
  | _ => []
noncomputable def r_SPut (br : Br) (a b c : Int) (l : List SeT) (s : ByteArray) (i : Int) := rdB br Try.prog cab2 lp_SPut LO_SPut Try.f22 5 [] [bxT 1 a b c l, aS s, aI i]
noncomputable def q_SPut (br : Br) (a b c : Int) (l : List SeT) := evB br Try.prog cab2 lp_SPut LO_SPut Try.f22 [cP (pTop a b c l)]
noncomputable def E_SPut : Entry := fun ivs => match ivs with
  | [.cv (.pv (.agg [.int .i64 a, .int .i64 b, .int .i64 c, .sl n l]))] => [(isSes (.sl n l), cS (putV a b c (asSes (.sl n l))), [])]
  | _ => []
/-! Reading one. -/
def seatAt (b : ByteArray) (i : Nat) : SeT := ⟨numV (b.extract (6 + 3 * i) (7 + 3 * i)), numV (b.extract (7 + 3 * i) (9 + 3 * i))⟩
def seatsOf (b : ByteArray) (n : Nat) : List SeT := (List.range n).map (seatAt b)
noncomputable def cab3 : List (FuncId × Entry) := (22, E_SPut) :: (21, E_number) :: [(20, E_Un)]
abbrev lp_SGet : List (Nat × List Nat × List Nat) := [(6, [0, 2, 5, 7, 8], [0, 2, 7]), (2000043, [7, 3, 44], [])]
abbrev zT (slot : Nat) : AV × Option Ob := aBx slot [.pv (.int .i64 0), .pv (.int .i64 0), .pv (.int .i64 0), .pv .nils]
abbrev bxN (slot : Nat) (a b c : Int) : AV × Option Ob := aBx slot [.pv (.int .i64 a), .pv (.int .i64 b), .pv (.int .i64 c), .pv .nils]
abbrev bxL (slot : Nat) (a b c : Int) (l : List SeT) (mt : Bool) : AV × Option Ob := aBx slot [.pv (.int .i64 a), .pv (.int .i64 b), .pv (.int .i64 c), .lst 2 50 l.length (encSe l) mt]
def cntV (b : ByteArray) : Nat := numL (b.extract 5 6).data.toList
noncomputable def LO_SGet : LoopT := fun _ ls => match ls with
  | [(.pv (.str s), none), (.ptr x 0, some (.box [.pv (.int .i64 z1), .pv (.int .i64 z2), .pv (.int .i64 z3), .pv .nils])), (.pv (.str d), none), (.ptr y 0, some (.box [.pv (.int .i64 a), .pv (.int .i64 b), .pv (.int .i64 c), .pv .nils])), (.pv (.int .i64 i), none)] =>
    [(Nat.beq x 8192 && Nat.beq y 28672 && (i == 0) && (z1 == 0) && (z2 == 0) && (z3 == 0) && decide (d.size = 1692) && Nat.beq (cntV d) 0, .exit 0, [aS s, zT 2, bxN 7 a b c]),
     (Nat.beq x 8192 && Nat.beq y 28672 && (i == 0) && (z1 == 0) && (z2 == 0) && (z3 == 0) && decide (d.size = 1692), .exit 0, [aS s, zT 2, bxL 7 a b c (seatsOf d (cntV d)) false])]
  | _ => []
noncomputable def r_SGet0 (br : Br) (s d : ByteArray) (a b c i : Int) := rdB br Try.prog cab3 lp_SGet LO_SGet Try.f10 6 [] [aS s, zT 2, aS d, bxN 7 a b c, aI i]
noncomputable def r_SGet (br : Br) (s d : ByteArray) (a b c : Int) (l : List SeT) (i : Int) := rdB br Try.prog cab3 lp_SGet LO_SGet Try.f10 6 [] [aS s, zT 2, aS d, bxL 7 a b c l false, aI i]
def midG (s : ByteArray) : ByteArray := s.extract 4 (s.size - 4)
def seqG (s : ByteArray) : Int := numV (s.extract 0 4)
def rootG (s : ByteArray) : Int := numV ((midG s).extract 0 1)
def countG (s : ByteArray) : Int := numV ((midG s).extract 1 5)
def seatsG (s : ByteArray) : List SeT := seatsOf (midG s) (cntV (midG s))
noncomputable def okG (s : ByteArray) : Bool := unV s 4 && decide (s.size = 1700) && ((putV (seqG s) (rootG s) (countG s) (seatsG s)).toList == s.toList)
noncomputable def E_SGet : Entry := fun ivs => match ivs with
  | [.cv (.pv (.str s))] =>
    [(decide (s.size ≤ 2000000) && okG s && Nat.beq (cntV (midG s)) 0, .tup [.agg [.pv (.int .i64 (seqG s)), .pv (.int .i64 (rootG s)), .pv (.int .i64 (countG s)), .pv .nils], cB true], []),
     (decide (s.size ≤ 2000000) && okG s, .tup [.agg [.pv (.int .i64 (seqG s)), .pv (.int .i64 (rootG s)), .pv (.int .i64 (countG s)), .pv (pSes (seatsG s))], cB true], []),
     (decide (s.size ≤ 2000000), .tup [.agg [.pv (.int .i64 0), .pv (.int .i64 0), .pv (.int .i64 0), .pv .nils], cB false], [])]
  | _ => []
noncomputable def q_SGet (br : Br) (s : ByteArray) := evB br Try.prog cab3 lp_SGet LO_SGet Try.f10 [cS s]
end Go.Proofs.Ytdegegajoccdjaa
