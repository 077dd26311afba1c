/- Patterns: what is right, by the reckoner: what is stated. -/
import Derived.Test.YtdegegajoccdjaaGbL
import Derived.Test.YtdegegajoccdjaaVxF
namespace Go.Proofs.Ytdegegajoccdjaa
open Go.RowKit
set_option linter.unusedVariables false
set_option linter.unusedSimpArgs false

def E_IdxB : Entry := fun ivs => match ivs with | [.cv (.pv (.str a)), .cv (.pv (.int .u8 c))] => [(true, cI (Lib.indexByte a.data.toList c.toNat.toUInt8), [])] | _ => []
noncomputable def gdb0 : List (FuncId × Entry) := (64, E_IdxB) :: []
noncomputable def q_within (br : Br) (n : Int) (a : Int) (b : Int) := evB br Try.prog [] [] LO0 Try.f37 [cP (.int .i64 n), cP (.int .i64 a), cP (.int .i64 b)]
noncomputable def E_within : Entry := fun ivs => match ivs with
  | [.cv (.pv (.int .i64 n)), .cv (.pv (.int .i64 a)), .cv (.pv (.int .i64 b))] =>
    [(true, cB (rngI n a b), [])]
  | _ => []
def prevC (l : List UInt8) (i : Nat) : Option UInt8 := if i = 0 then none else l[i - 1]?
abbrev lp_codesOk : List (Nat × List Nat × List Nat) := [(2, [0, 3], [2])]
noncomputable def LO_codesOk_2 (ls : LS) : List (Bool × Ex × LS) := match ls with
  | [(.pv (.str c), none), (.pv (.int .i64 i), none)] =>
    [((i == (0)) && decide (c.size ≤ 1000000) && !codesB c, .ret, [aB false]),
     ((i == (0)) && decide (c.size ≤ 1000000) && codesB c, .exit 0, [aX])]
  | _ => []
noncomputable def LO_codesOk : LoopT := fun k ls => bif Nat.beq k 2 then LO_codesOk_2 ls else []
noncomputable def r_codesOk (br : Br) (c : ByteArray) (i : Int) := rdB br Try.prog gdb0 lp_codesOk LO_codesOk Try.f55 2 [] [aP (.str c), aP (.int .i64 i)]
noncomputable def q_codesOk (br : Br) (c : ByteArray) := evB br Try.prog gdb0 lp_codesOk LO_codesOk Try.f55 [cP (.str c)]
noncomputable def E_codesOk : Entry := fun ivs => match ivs with
  | [.cv (.pv (.str c))] =>
    [(decide (c.size ≤ 1000000), cB (codesB c), [])]
  | _ => []
noncomputable def gdb1 : List (FuncId × Entry) := (55, E_codesOk) :: (37, E_within) :: gdb0
noncomputable def E_itemsF (f : Nat) : Entry := fun ivs => match ivs with
  | [.cv (.pv p), .cv (.pv (.int .i64 k))] => [(decide (f ≤ 3) && isPt p && (k == 3 - (f : Int)), cB (itemsB f (asPt p)), [])]
  | _ => []
noncomputable def E_itemsX (f : Nat) : Entry := fun ivs => match ivs with
  | [.cv (.pv p), .cv (.pv (.int .i64 k))] => [(decide (0 < f) && decide (f ≤ 4) && isPt p && (k == 3 - ((f : Int) - 1)), cB (itemsB (f - 1) (asPt p)), [])]
  | _ => []
noncomputable def gdb2 (f : Nat) : List (FuncId × Entry) := (19, E_itemsX f) :: gdb1
noncomputable def E_alt1 (f : Nat) : Entry := fun ivs => match ivs with
  | [.cv (.pv p), .cv (.pv (.ref [.int .i64 k]))] => [(decide (0 < f) && decide (f ≤ 4) && isPt p && (k == 3 - (f : Int)), cB (!itemsB (f - 1) (asPt p)), [])]
  | _ => []
noncomputable def q_alt1 (br : Br) (f : Nat) (l : List PatT) (k : Int) := evB br Try.prog (gdb2 f) [] LO0 Try.f57 [cP (pPt l), cP (.ref [.int .i64 k])]
noncomputable def gdb3 (f : Nat) : List (FuncId × Entry) := (57, E_alt1 f) :: gdb2 f
abbrev aCl (k : Int) : PV := .clo 57 [.ref [.int .i64 k]]
abbrev badA (f : Nat) (l : List PatT) : Bool := !itemsB (f - 1) l
abbrev lp_IdxA : List (Nat × List Nat × List Nat) := [(2, [0, 1, 7, 8], [4])]
noncomputable def LO_IdxA (f : Nat) : LoopT := fun _ ls => match ls with
  | [(.pv p, none), (.pv (.clo g [.ref [.int .i64 k]]), none), (.pv (.int .i64 n), none), (.pv (.int .i64 i), none)] =>
    [(decide (0 < f) && decide (f ≤ 4) && isAl p && (k == 3 - (f : Int)) && Nat.beq g 57 && (n == ((asAl p).length : Int)) && (i == 0) && decide (idxV (badA f) (asAl p) < (asAl p).length), .ret, [aI (idxV (badA f) (asAl p))]),
     (decide (0 < f) && decide (f ≤ 4) && isAl p && (k == 3 - (f : Int)) && Nat.beq g 57 && (n == ((asAl p).length : Int)) && (i == 0) && !decide (idxV (badA f) (asAl p) < (asAl p).length), .exit 0, [aX])]
  | _ => []
noncomputable def r_IdxA (br : Br) (f : Nat) (l : List (List PatT)) (k i : Int) := rdB br Try.prog (gdb3 f) lp_IdxA (LO_IdxA f) Try.f65 2 [] [aP (pAl l), aP (aCl k), aI l.length, aI i]
noncomputable def q_IdxA (br : Br) (f : Nat) (l : List (List PatT)) (k : Int) := evB br Try.prog (gdb3 f) lp_IdxA (LO_IdxA f) Try.f65 [cP (pAl l), cP (aCl k)]
noncomputable def E_IdxA (f : Nat) : Entry := fun ivs => match ivs with
  | [.cv (.pv p), .cv (.pv (.clo g [.ref [.int .i64 k]]))] => [(decide (0 < f) && decide (f ≤ 4) && isAl p && (k == 3 - (f : Int)) && Nat.beq g 57, cI (if idxV (badA f) (asAl p) < (asAl p).length then idxV (badA f) (asAl p) else -1), [])]
  | _ => []
noncomputable def gdb4 (f : Nat) : List (FuncId × Entry) := (65, E_IdxA f) :: gdb3 f
noncomputable def q_ConA (br : Br) (f : Nat) (l : List (List PatT)) (k : Int) := evB br Try.prog (gdb4 f) [] LO0 Try.f56 [cP (pAl l), cP (aCl k)]
noncomputable def E_ConA (f : Nat) : Entry := fun ivs => match ivs with
  | [.cv (.pv p), .cv (.pv (.clo g [.ref [.int .i64 k]]))] => [(decide (0 < f) && decide (f ≤ 4) && isAl p && (k == 3 - (f : Int)) && Nat.beq g 57, cB (!altsB (f - 1) (asAl p)), [])]
  | _ => []
noncomputable def gdb5 (f : Nat) : List (FuncId × Entry) := (56, E_ConA f) :: gdb4 f
noncomputable def q_itemOk (br : Br) (f : Nat) (x : PatT) (k : Int) := evB br Try.prog (gdb5 f) [] LO0 Try.f40 [cP (pP1 x), cI k]
noncomputable def E_itemOk (f : Nat) : Entry := fun ivs => match ivs with
  | [.cv (.pv p), .cv (.pv (.int .i64 k))] => [(decide (f ≤ 3) && isP1 p && (k == 3 - (f : Int)), cB (itemB f (asP1 p)), [])]
  | _ => []
noncomputable def gdb6 (f : Nat) : List (FuncId × Entry) := (40, E_itemOk f) :: gdb5 f
noncomputable def E_item1 (f : Nat) : Entry := fun ivs => match ivs with
  | [.cv (.pv p), .cv (.pv (.ref [.int .i64 k]))] => [(decide (f ≤ 3) && isP1 p && (k == 3 - (f : Int)), cB (!itemB f (asP1 p)), [])]
  | _ => []
noncomputable def q_item1 (br : Br) (f : Nat) (x : PatT) (k : Int) := evB br Try.prog (gdb6 f) [] LO0 Try.f39 [cP (pP1 x), cP (.ref [.int .i64 k])]
noncomputable def gdb7 (f : Nat) : List (FuncId × Entry) := (39, E_item1 f) :: gdb6 f
abbrev iCl (k : Int) : PV := .clo 39 [.ref [.int .i64 k]]
abbrev badI (f : Nat) (x : PatT) : Bool := !itemB f x
noncomputable def LO_IdxI (f : Nat) : LoopT := fun _ ls => match ls with
  | [(.pv p, none), (.pv (.clo g [.ref [.int .i64 k]]), none), (.pv (.int .i64 n), none), (.pv (.int .i64 i), none)] =>
    [(decide (f ≤ 3) && isPt p && (k == 3 - (f : Int)) && Nat.beq g 39 && (n == ((asPt p).length : Int)) && (i == 0) && decide (idxV (badI f) (asPt p) < (asPt p).length), .ret, [aI (idxV (badI f) (asPt p))]),
     (decide (f ≤ 3) && isPt p && (k == 3 - (f : Int)) && Nat.beq g 39 && (n == ((asPt p).length : Int)) && (i == 0) && !decide (idxV (badI f) (asPt p) < (asPt p).length), .exit 0, [aX])]
  | _ => []
noncomputable def r_IdxI (br : Br) (f : Nat) (l : List PatT) (k i : Int) := rdB br Try.prog (gdb7 f) lp_IdxA (LO_IdxI f) Try.f54 2 [] [aP (pPt l), aP (iCl k), aI l.length, aI i]
noncomputable def q_IdxI (br : Br) (f : Nat) (l : List PatT) (k : Int) := evB br Try.prog (gdb7 f) lp_IdxA (LO_IdxI f) Try.f54 [cP (pPt l), cP (iCl k)]
noncomputable def E_IdxI (f : Nat) : Entry := fun ivs => match ivs with
  | [.cv (.pv p), .cv (.pv (.clo g [.ref [.int .i64 k]]))] => [(decide (f ≤ 3) && isPt p && (k == 3 - (f : Int)) && Nat.beq g 39, cI (if idxV (badI f) (asPt p) < (asPt p).length then idxV (badI f) (asPt p) else -1), [])]
  | _ => []
noncomputable def gdb8 (f : Nat) : List (FuncId × Entry) := (54, E_IdxI f) :: gdb7 f
noncomputable def q_ConI (br : Br) (f : Nat) (l : List PatT) (k : Int) := evB br Try.prog (gdb8 f) [] LO0 Try.f38 [cP (pPt l), cP (iCl k)]
noncomputable def E_ConI (f : Nat) : Entry := fun ivs => match ivs with
  | [.cv (.pv p), .cv (.pv (.clo g [.ref [.int .i64 k]]))] => [(decide (f ≤ 3) && isPt p && (k == 3 - (f : Int)) && Nat.beq g 39, cB (!itemsL f (asPt p)), [])]
  | _ => []
noncomputable def gdb9 (f : Nat) : List (FuncId × Entry) := (38, E_ConI f) :: gdb8 f
noncomputable def q_itemsOk (br : Br) (f : Nat) (l : List PatT) (k : Int) := evB br Try.prog (gdb9 f) [] LO0 Try.f19 [cP (pPt l), cI k]
noncomputable def gdc0 : List (FuncId × Entry) := (19, E_itemsF 3) :: gdb1
noncomputable def q_PatternOk (br : Br) (l : List PatT) := evB br Try.prog gdc0 [] LO0 Try.f9 [cP (pPt l)]
noncomputable def E_PatternOk : Entry := fun ivs => match ivs with
  | [.cv (.pv p)] => [(isPt p, cB (itemsB 3 (asPt p)), [])]
  | _ => []
end Go.Proofs.Ytdegegajoccdjaa
