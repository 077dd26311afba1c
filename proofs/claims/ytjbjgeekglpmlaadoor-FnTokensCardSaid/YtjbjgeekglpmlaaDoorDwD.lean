/- The law FnTokens, by the reckoner: what is stated. -/
import Derived.Test.YtjbjgeekglpmlaaDoorDvP
import Derived.Test.YtjbjgeekglpmlaaDoorTokQuoted
namespace Go.Proofs.YtjbjgeekglpmlaaDoor
open Go.RowKit
set_option linter.unusedVariables false
noncomputable def sameL (a b : List PV) : Bool := @decide (a = b) (Classical.propDecidable (a = b))
theorem sameL_rfl (a : List PV) : sameL a a = true := by unfold sameL; exact @decide_eq_true _ (Classical.propDecidable _) rfl
theorem sameL_eq {a b : List PV} (h : sameL a b = true) : a = b := by unfold sameL at h; exact @of_decide_eq_true _ (Classical.propDecidable _) h
def quoteV (s : ByteArray) : ByteArray := bs (34 :: (dbl s.data.toList ++ [34]))
def E_quoteI : Entry := fun ivs => match ivs with | [.cv (.pv (.str s))] => [(decide (s.size ≤ 1000), cS (quoteV s), [])] | _ => []
def unqV (u : ByteArray) : List UInt8 := qT (u.data.toList.drop 1)
def E_unquote : Entry := fun ivs => match ivs with
  | [.cv (.pv (.str u))] => [(decide (u.size ≤ 1000) && decide (u.data.toList = 34 :: (dbl (unqV u) ++ [34])), .tup [cS (bs (unqV u)), cI 0], [])] | _ => []
def E_ttext : Entry := fun ivs => match ivs with
  | [.cv (.pv (.agg [.int .i64 k, .str t, .int .i64 p]))] => [(decide (t.size ≤ 1000), cS (bs (tokW k t.data.toList)), [])] | _ => []
def kab0 : List (FuncId × Entry) := [(7, E_chars), (8, E_tokI), (9, E_tokS), (10, E_ttext), (12, E_quoteI), (11, E_unquote)]
abbrev lp_ltok : List (Nat × List Nat × List Nat) := [(10, [3, 4, 8, 9], [2, 3, 4, 8])]
noncomputable def LO_ltok : LoopT := fun _ ls => match ls with
  | [(.pv (.str s), none), (.own x, some (.lst 3 e n l false)), (.pv (.str t), none), (.pv (.int .i64 i), none)] =>
    [(Nat.beq x 16384 && Nat.beq e 31 && allT s && decide (s.size ≤ 120) && Nat.beq n (cntT s) && sameL l (cellsT s) && (i == 0) && decide (t.size = 0), .exit 0, [aX, aS s, aL 4 3 31 n l, aS s])]
  | _ => []
noncomputable def r_ltok (br : Br) (s : ByteArray) (n : Nat) (l : List PV) (t : ByteArray) (i : Int) := rdB br Tryd.prog kab0 lp_ltok LO_ltok Tryd.f4 10 [] [aS s, aL 4 3 31 n l, aS t, aI i]
noncomputable def q_ltok (br : Br) (n : Nat) (l : List PV) := evB br Tryd.prog kab0 lp_ltok LO_ltok Tryd.f4 [.cv (.pv (.sl n l))]
end Go.Proofs.YtjbjgeekglpmlaaDoor
