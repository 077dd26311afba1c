/- Tokens of a line, both sides, by the reckoner: what is stated. -/
import Derived.Test.YtjbjgeekglpmlaaDoorDtP
import Derived.Test.YtjbjgeekglpmlaaDoorPnQ
namespace Go.Proofs.YtjbjgeekglpmlaaDoor
open Go.RowKit
set_option linter.unusedVariables false
/-- The tokens as cells, as far as they go; where it ends; whether all was read. -/
def toksF (p : Nat) (l : List UInt8) : List PV × Nat × Bool :=
  if h : l = [] then ([], p, true) else if h2 : tokN l = 0 then ([], p, false) else
    ([.int .i64 (tokK l), .str (bs (tokT l)), .int .i64 p] ++ (toksF (p + tokN l) (l.drop (tokN l))).1, (toksF (p + tokN l) (l.drop (tokN l))).2)
termination_by l.length
decreasing_by all_goals (have : l.length ≠ 0 := fun e => h (List.length_eq_zero_iff.1 e); rw [List.length_drop]; omega)
def cntF (p : Nat) (l : List UInt8) : Nat := (toksF p l).1.length / 3
abbrev lp_tokI : List (Nat × List Nat × List Nat) := [(4, [0, 4, 5], [2, 3, 4, 5])]
def LO_tokI : LoopT := fun _ ls => match ls with
  | [(.pv (.str s), none), (.own x, some (.lst 3 e n l false)), (.pv (.int .i64 i), none)] =>
    [(okI s i && decide (n ≤ i.toNat) && Nat.beq l.length (n * 3) && Nat.beq x 16384 && Nat.beq e 31 && (toksF i.toNat (SL s i)).2.2, .exit 0, [aX, aX, aL 4 3 31 (n + cntF i.toNat (SL s i)) (l ++ (toksF i.toNat (SL s i)).1), aI (toksF i.toNat (SL s i)).2.1]),
      (okI s i && decide (n ≤ i.toNat) && Nat.beq l.length (n * 3) && Nat.beq x 16384 && Nat.beq e 31, .ret, [(.pv .nils, none), aI 6, aL 4 3 31 (n + cntF i.toNat (SL s i)) (l ++ (toksF i.toNat (SL s i)).1), aI (toksF i.toNat (SL s i)).2.1])]
  | _ => []
noncomputable def r_tokI (br : Br) (s : ByteArray) (n : Nat) (l : List PV) (i : Int) := rdB br Tryd.prog jab0 lp_tokI LO_tokI Tryd.f8 4 [] [aS s, aL 4 3 31 n l, aI i]
noncomputable def q_tokI (br : Br) (s : ByteArray) := evB br Tryd.prog jab0 lp_tokI LO_tokI Tryd.f8 [cS s]
end Go.Proofs.YtjbjgeekglpmlaaDoor
