/- The reference's lexer, by the reckoner: what is stated. -/
import Derived.Test.YtjbjgeekglpmlaaDoorProg
import Derived.Test.YtjbjgeekglpmlaaDoorVx3
import Derived.Test.YtjbjgeekglpmlaaDoorTokLaw
namespace Go.Proofs.YtjbjgeekglpmlaaDoor
open Go.RowKit
set_option linter.unusedVariables false

def letterZ (n : Int) : Bool := (decide (97 ≤ n) && decide (n ≤ 122)) || (decide (65 ≤ n) && decide (n ≤ 90))
def digitZ (n : Int) : Bool := decide (48 ≤ n) && decide (n ≤ 57)
def bs (l : List UInt8) : ByteArray := ⟨l.toArray⟩
/-- What stands from a place on. -/
def SL (s : ByteArray) (i : Int) : List UInt8 := s.data.toList.drop i.toNat
def okS (s : ByteArray) (i : Int) : Bool := decide (0 ≤ i) && decide (i ≤ s.size) && decide (s.size ≤ 1048576)
abbrev cI (n : Int) : IV := .cv (.pv (.int .i64 n))
abbrev cU (n : Int) : IV := .cv (.pv (.int .u8 n))
abbrev cB (b : Bool) : IV := .cv (.pv (.bool b))
abbrev cS (s : ByteArray) : IV := .cv (.pv (.str s))
abbrev aI (n : Int) : AV × Option Ob := (.pv (.int .i64 n), none)
abbrev aU (n : Int) : AV × Option Ob := (.pv (.int .u8 n), none)
abbrev aB (b : Bool) : AV × Option Ob := (.pv (.bool b), none)
abbrev aS (s : ByteArray) : AV × Option Ob := (.pv (.str s), none)
abbrev aX : AV × Option Ob := (.bad, none)
/-- A list of the call's own, in slot k. -/
abbrev aL (slot k : Nat) (e : TypeId) (n : Nat) (l : List PV) : AV × Option Ob := (.own (4096 * slot), some (.lst k e n l false))

def E_letter : Entry := fun ivs => match ivs with | [.cv (.pv (.int .u8 n))] => [(true, cB (letterZ n), [])] | _ => []
def E_digit : Entry := fun ivs => match ivs with | [.cv (.pv (.int .u8 n))] => [(true, cB (digitZ n), [])] | _ => []
def E_run : Entry := fun ivs => match ivs with | [.cv (.pv (.str s)), .cv (.pv (.int .i64 i))] => [(okS s i, cI (i + ((SL s i).takeWhile nameCh).length), [])] | _ => []
def E_digits : Entry := fun ivs => match ivs with | [.cv (.pv (.str s)), .cv (.pv (.int .i64 i))] => [(okS s i, cI (i + ((SL s i).takeWhile isDig).length), [])] | _ => []
def E_two : Entry := fun ivs => match ivs with | [.cv (.pv (.str s)), .cv (.pv (.int .i64 i))] => [(okS s i, cB (isTwo (SL s i)), [])] | _ => []
def E_sign : Entry := fun ivs => match ivs with | [.cv (.pv (.int .u8 n))] => [(decide (0 ≤ n) && decide (n < 256), cB (oneS.contains (UInt8.ofNat n.toNat)), [])] | _ => []
def qE (l : List UInt8) (i : Int) : Int := if (qR l).isSome = true then i + qN l else 0
def E_quoted : Entry := fun ivs => match ivs with | [.cv (.pv (.str s)), .cv (.pv (.int .i64 i))] => [(okS s i, .tup [cS (bs (qT ((SL s i).drop 1))), cI (qE ((SL s i).drop 1) i), cB (qR ((SL s i).drop 1)).isSome], [])] | _ => []
def tab0 : List (FuncId × Entry) := [(37, E_digit), (39, E_letter)]
def tab1 : List (FuncId × Entry) := (40, E_run) :: (41, E_digits) :: (42, E_two) :: (43, E_sign) :: (38, E_quoted) :: tab0

noncomputable def q_letter (br : Br) (n : Int) := evB br Tryd.prog [] [] LO0 Tryd.f39 [cU n]
noncomputable def q_digit (br : Br) (n : Int) := evB br Tryd.prog [] [] LO0 Tryd.f37 [cU n]
abbrev lp_run : List (Nat × List Nat × List Nat) := [(1, [0, 1], [1])]
def LO_run : LoopT := fun _ ls => match ls with | [(.pv (.str s), none), (.pv (.int .i64 i), none)] => [(okS s i, .exit 0, [aI (i + ((SL s i).takeWhile nameCh).length)])] | _ => []
noncomputable def r_run (br : Br) (s : ByteArray) (i : Int) := rdB br Tryd.prog tab0 lp_run LO_run Tryd.f40 1 [] [aS s, aI i]
noncomputable def q_run (br : Br) (s : ByteArray) (i : Int) := evB br Tryd.prog tab0 lp_run LO_run Tryd.f40 [cS s, cI i]
def LO_digits : LoopT := fun _ ls => match ls with | [(.pv (.str s), none), (.pv (.int .i64 i), none)] => [(okS s i, .exit 0, [aI (i + ((SL s i).takeWhile isDig).length)])] | _ => []
noncomputable def r_digits (br : Br) (s : ByteArray) (i : Int) := rdB br Tryd.prog tab0 lp_run LO_digits Tryd.f41 1 [] [aS s, aI i]
noncomputable def q_digits (br : Br) (s : ByteArray) (i : Int) := evB br Tryd.prog tab0 lp_run LO_digits Tryd.f41 [cS s, cI i]
/-- Signs of two bytes. -/
abbrev lp_two : List (Nat × List Nat × List Nat) := [(5, [0, 1, 5, 6], [4])]
def wfS (n : Nat) (l : List PV) : Bool := Nat.beq l.length n && l.all PV.isStr
def hasT (l : List PV) (i : Int) (t : List UInt8) : Bool := (l.drop i.toNat).any fun p => t == p.asStr.toList
def LO_two : LoopT := fun _ ls => match ls with
  | [(.pv (.str s), none), (.pv (.int .i64 a), none), (.own x, some (.lst 1 e n l false)), (.pv (.int .i64 i), none)] =>
    [(okS s a && decide (a + 2 ≤ s.size) && decide (0 ≤ i) && decide (i ≤ n) && decide (n ≤ 1048576) && wfS n l && Nat.beq x 20480 && Nat.beq e 9 && hasT l i ((SL s a).take 2), .ret, [aB true]),
      (okS s a && decide (a + 2 ≤ s.size) && decide (0 ≤ i) && decide (i ≤ n) && decide (n ≤ 1048576) && wfS n l && Nat.beq x 20480 && Nat.beq e 9, .exit 0, [aX])]
  | _ => []
noncomputable def r_two (br : Br) (s : ByteArray) (a i : Int) (n : Nat) (l : List PV) := rdB br Tryd.prog tab0 lp_two LO_two Tryd.f42 5 [] [aS s, aI a, aL 5 1 9 n l, aI i]
noncomputable def q_two (br : Br) (s : ByteArray) (i : Int) := evB br Tryd.prog tab0 lp_two LO_two Tryd.f42 [cS s, cI i]
/-- Signs of one byte. -/
abbrev lp_sign : List (Nat × List Nat × List Nat) := [(3, [0, 3, 4], [2])]
def LO_sign : LoopT := fun _ ls => match ls with
  | [(.pv (.int .u8 c), none), (.pv (.str s), none), (.pv (.int .i64 i), none)] =>
    [(decide (0 ≤ c) && decide (c < 256) && okS s i && (SL s i).contains (UInt8.ofNat c.toNat), .ret, [aB true]), (decide (0 ≤ c) && decide (c < 256) && okS s i, .exit 0, [aX])]
  | _ => []
noncomputable def r_sign (br : Br) (c : Int) (s : ByteArray) (i : Int) := rdB br Tryd.prog tab0 lp_sign LO_sign Tryd.f43 3 [] [aU c, aS s, aI i]
noncomputable def q_sign (br : Br) (c : Int) := evB br Tryd.prog tab0 lp_sign LO_sign Tryd.f43 [cU c]
/-- A text in quotes. -/
abbrev lp_quoted : List (Nat × List Nat × List Nat) := [(3, [0, 7, 8], [4, 5, 6])]
def LO_quoted : LoopT := fun _ ls => match ls with
  | [(.pv (.str s), none), (.own x, some (.lst 1 e n l false)), (.pv (.int .i64 i), none)] =>
    [(decide (0 ≤ i) && decide (s.size ≤ 1048576) && decide (n ≤ 2 * i.toNat) && Nat.beq l.length n && (bytesOf l).isSome && Nat.beq x 28672 && Nat.beq e 5 && (qR (SL s i)).isSome, .ret, [aS (bs ((bytesOf l).getD [] ++ qT (SL s i))), aI (i + qN (SL s i) - 1), aB true]),
      (decide (0 ≤ i) && decide (i ≤ s.size + 1) && decide (s.size ≤ 1048576) && decide (n ≤ 2 * i.toNat) && Nat.beq l.length n && (bytesOf l).isSome && Nat.beq x 28672 && Nat.beq e 5, .exit 0, [aX, aX, aX])]
  | _ => []
noncomputable def r_quoted (br : Br) (s : ByteArray) (i : Int) (n : Nat) (l : List PV) := rdB br Tryd.prog tab0 lp_quoted LO_quoted Tryd.f38 3 [] [aS s, aL 7 1 5 n l, aI i]
noncomputable def q_quoted (br : Br) (s : ByteArray) (i : Int) := evB br Tryd.prog tab0 lp_quoted LO_quoted Tryd.f38 [cS s, cI i]
/-- The token at a place. -/
def lexK (l : List UInt8) : Int := if l = [] then 6 else if tokN l = 0 then (if l.headD 0 = 34 then 3 else 0) else tokK l
def lexT (l : List UInt8) : List UInt8 := if l = [] then [] else if tokN l = 0 then [] else tokT l
def lexP (l : List UInt8) (i : Int) : Int := if l = [] then i else if tokN l = 0 then (if l.headD 0 = 34 then i else 0) else i
def lexE (l : List UInt8) (i : Int) : Int := if l = [] then i else if tokN l = 0 then 0 else i + tokN l
def lexO (l : List UInt8) : Bool := decide (l = []) || decide (tokN l ≠ 0)
def E_lex : Entry := fun ivs => match ivs with | [.cv (.pv (.str s)), .cv (.pv (.int .i64 i))] => [(okS s i, .tup [.agg [.pv (.int .i64 (lexK (SL s i))), .pv (.str (bs (lexT (SL s i)))), .pv (.int .i64 (lexP (SL s i) i))], cI (lexE (SL s i) i), cB (lexO (SL s i))], [])] | _ => []
def tab2 : List (FuncId × Entry) := (20, E_lex) :: tab1
noncomputable def q_lex (br : Br) (s : ByteArray) (i : Int) := evB br Tryd.prog tab1 [] LO0 Tryd.f20 [cS s, cI i]
end Go.Proofs.YtjbjgeekglpmlaaDoor
