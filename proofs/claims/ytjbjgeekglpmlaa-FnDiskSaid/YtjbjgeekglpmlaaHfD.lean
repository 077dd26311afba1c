/- Disks: which are right, by the reckoner: what is stated. -/
import Derived.Test.YtjbjgeekglpmlaaHeP
namespace Go.Proofs.Ytjbjgeekglpmlaa
open Go.RowKit
set_option linter.unusedVariables false

/-! The reference. -/
noncomputable def secOk (d : DskT) : Bool := d.secs.all fun s => decide ((s.size : Int) = d.wide)
noncomputable def putOk (d : DskT) : Bool := d.puts.all (okPut d.secs.length d.wide)
noncomputable def hfb0 : List (FuncId × Entry) := [(33, E_In)]
abbrev dkB (d : DskT) : AV × Option Ob := aBx 1 [.pv (.int .i64 d.wide), .pv (pL d.secs), .pv (pPs d.puts)]
abbrev lp_SDk : List (Nat × List Nat × List Nat) := [(5, [1, 3, 4], [1, 2, 3]), (10, [1, 3, 5], [2])]
noncomputable def LO_SDk : LoopT := fun key ls => bif Nat.beq key 5 then (match ls with
  | [(.ptr x 0, some (.box [.pv (.int .i64 w), .pv p, .pv q])), (.pv (.int .i64 m), none), (.pv (.int .i64 i), none)] =>
    [(isDk (.agg [.int .i64 w, p, q]) && Nat.beq x 4096 && (i == 0) && !secOk (asDk (.agg [.int .i64 w, p, q])), .ret, [aBx 1 [.pv (.int .i64 w), .pv p, .pv q], aB false, aI m]),
     (isDk (.agg [.int .i64 w, p, q]) && Nat.beq x 4096 && (i == 0), .exit 0, [aBx 1 [.pv (.int .i64 w), .pv p, .pv q], aX, aI m])]
  | _ => []) else (match ls with
  | [(.ptr x 0, some (.box [.pv (.int .i64 w), .pv p, .pv q])), (.pv (.int .i64 m), none), (.pv (.int .i64 i), none)] =>
    [(isDk (.agg [.int .i64 w, p, q]) && Nat.beq x 4096 && (i == 0) && (m == ((asDk (.agg [.int .i64 w, p, q])).secs.length : Int)) && !putOk (asDk (.agg [.int .i64 w, p, q])), .ret, [aB false]),
     (isDk (.agg [.int .i64 w, p, q]) && Nat.beq x 4096 && (i == 0) && (m == ((asDk (.agg [.int .i64 w, p, q])).secs.length : Int)), .exit 2, [aX])]
  | _ => [])
noncomputable def r_SDk5 (br : Br) (d : DskT) (m i : Int) := rdB br Try.prog hfb0 lp_SDk LO_SDk Try.f13 5 [] [dkB d, aI m, aI i]
noncomputable def r_SDk10 (br : Br) (d : DskT) (m i : Int) := rdB br Try.prog hfb0 lp_SDk LO_SDk Try.f13 10 [] [dkB d, aI m, aI i]
noncomputable def q_SDk (br : Br) (d : DskT) := evB br Try.prog hfb0 lp_SDk LO_SDk Try.f13 [cP (pDk d)]
noncomputable def E_DkOk : Entry := fun ivs => match ivs with | [.cv (.pv p)] => [(isDk p, cB (dskB (asDk p)), [])] | _ => []
/-! The program. -/
noncomputable def q_within2 (br : Br) (n a b : Int) := evB br Try.prog [] [] LO0 Try.f40 [cI n, cI a, cI b]
noncomputable def q_count2 (br : Br) (n : Nat) (l : List PV) := evB br Try.prog [] [] LO0 Try.f66 [cP (.sl n l)]
noncomputable def q_countP (br : Br) (n : Nat) (l : List PV) := evB br Try.prog [] [] LO0 Try.f39 [cP (.sl n l)]
def E_cnt : Entry := fun ivs => match ivs with | [.cv (.pv (.sl n l))] => [(true, cI n, [])] | _ => []
noncomputable def hfb1 : List (FuncId × Entry) := (40, E_In) :: (66, E_cnt) :: [(39, E_cnt)]
noncomputable def q_has (br : Br) (d : DskT) (a : Int) := evB br Try.prog hfb1 [] LO0 Try.f43 [cP (pDk d), cI a]
noncomputable def E_has : Entry := fun ivs => match ivs with | [.cv (.pv p), .cv (.pv (.int .i64 a))] => [(isDk p, cB (decide (0 ≤ a) && decide (a ≤ ((asDk p).secs.length : Int) - 1)), [])] | _ => []
noncomputable def hfb2 : List (FuncId × Entry) := (43, E_has) :: hfb1
abbrev rDk (d : DskT) : PV := .ref [.int .i64 d.wide, pL d.secs, pPs d.puts]
noncomputable def q_clo1 (br : Br) (s : ByteArray) (d : DskT) := evB br Try.prog hfb2 [] LO0 Try.f68 [cS s, cP (rDk d)]
noncomputable def q_clo2 (br : Br) (x : PutT) (d : DskT) := evB br Try.prog hfb2 [] LO0 Try.f70 [cP (pP x), cP (rDk d)]
noncomputable def E_clo1 : Entry := fun ivs => match ivs with | [.cv (.pv (.str s)), .cv (.pv (.ref [.int .i64 w, p, q]))] => [(isDk (.agg [.int .i64 w, p, q]) && decide (s.size ≤ 1000000), cB (!decide ((s.size : Int) = w)), [])] | _ => []
noncomputable def E_clo2 : Entry := fun ivs => match ivs with | [.cv (.pv x), .cv (.pv (.ref [.int .i64 w, p, q]))] => [(isDk (.agg [.int .i64 w, p, q]) && isP x, cB (!okPut (asDk (.agg [.int .i64 w, p, q])).secs.length w (asP x)), [])] | _ => []
abbrev lp_Idx : List (Nat × List Nat × List Nat) := [(2, [0, 1, 7, 8], [4])]
/-- The first that is wanted. -/
def fiW {α : Type} (p : α → Bool) : List α → Nat
  | [] => 0
  | x :: xs => if p x = true then 0 else fiW p xs + 1
def badSz (w : Int) (s : ByteArray) : Bool := !decide ((s.size : Int) = w)
def badPt (m : Nat) (w : Int) (x : PutT) : Bool := !okPut m w x
def badIn (lo hi n : Int) : Bool := !(decide (lo ≤ n) && decide (n ≤ hi))
def shI (xs : List Int) : Prop := xs.length ≤ 100000 ∧ ∀ x ∈ xs, inN x
noncomputable abbrev isI (p : PV) : Bool := isE pI shI p
noncomputable abbrev asI (p : PV) : List Int := asE pI p
noncomputable def q_cloI (br : Br) (n lo hi : Int) := evB br Try.prog hfb2 [] LO0 Try.f74 [cI n, cP (.ref [.int .i64 lo]), cP (.ref [.int .i64 hi])]
def E_cloI : Entry := fun ivs => match ivs with | [.cv (.pv (.int .i64 n)), .cv (.pv (.ref [.int .i64 lo])), .cv (.pv (.ref [.int .i64 hi]))] => [(true, cB (badIn lo hi n), [])] | _ => []
noncomputable def hfb3 : List (FuncId × Entry) := (68, E_clo1) :: (70, E_clo2) :: (74, E_cloI) :: hfb2
/-! Index and contains (printed by gen/idxd.py). -/
noncomputable def LO_IdxS : LoopT := fun _ ls => match ls with
  | [(.pv p, none), (.pv (.clo f [.ref [.int .i64 w, a, b]]), none), (.pv (.int .i64 n), none), (.pv (.int .i64 i), none)] =>
    [(isL p && Nat.beq f 68 && isDk (.agg [.int .i64 w, a, b]) && (n == ((asL p).length : Int)) && (i == 0) && decide (fiW (badSz w) (asL p) < (asL p).length), .ret, [aI (fiW (badSz w) (asL p))]),
     (isL p && Nat.beq f 68 && isDk (.agg [.int .i64 w, a, b]) && (n == ((asL p).length : Int)) && (i == 0), .exit 0, [aX])]
  | _ => []
noncomputable def r_IdxS (br : Br) (d : DskT) (xs : List ByteArray) (i : Int) := rdB br Try.prog hfb3 lp_Idx LO_IdxS Try.f91 2 [] [aP (pL xs), aP (.clo 68 [rDk d]), aI xs.length, aI i]
noncomputable def q_IdxS (br : Br) (d : DskT) (xs : List ByteArray) := evB br Try.prog hfb3 lp_Idx LO_IdxS Try.f91 [cP (pL xs), cP (.clo 68 [rDk d])]
noncomputable def E_IdxS : Entry := fun ivs => match ivs with
  | [.cv (.pv p), .cv (.pv (.clo f [.ref [.int .i64 w, a, b]]))] => [(isL p && Nat.beq f 68 && isDk (.agg [.int .i64 w, a, b]), cI (if fiW (badSz w) (asL p) < (asL p).length then fiW (badSz w) (asL p) else -1), [])]
  | _ => []
noncomputable def hfcS : List (FuncId × Entry) := [(91, E_IdxS)]
noncomputable def q_ConS (br : Br) (d : DskT) (xs : List ByteArray) := evB br Try.prog hfcS [] LO0 Try.f67 [cP (pL xs), cP (.clo 68 [rDk d])]
noncomputable def E_ConS : Entry := fun ivs => match ivs with
  | [.cv (.pv p), .cv (.pv (.clo f [.ref [.int .i64 w, a, b]]))] => [(isL p && Nat.beq f 68 && isDk (.agg [.int .i64 w, a, b]), cB ((asL p).any (badSz w)), [])]
  | _ => []
noncomputable def LO_IdxP : LoopT := fun _ ls => match ls with
  | [(.pv p, none), (.pv (.clo f [.ref [.int .i64 w, a, b]]), none), (.pv (.int .i64 n), none), (.pv (.int .i64 i), none)] =>
    [(isPs p && Nat.beq f 70 && isDk (.agg [.int .i64 w, a, b]) && (n == ((asPs p).length : Int)) && (i == 0) && decide (fiW (badPt (asDk (.agg [.int .i64 w, a, b])).secs.length w) (asPs p) < (asPs p).length), .ret, [aI (fiW (badPt (asDk (.agg [.int .i64 w, a, b])).secs.length w) (asPs p))]),
     (isPs p && Nat.beq f 70 && isDk (.agg [.int .i64 w, a, b]) && (n == ((asPs p).length : Int)) && (i == 0), .exit 0, [aX])]
  | _ => []
noncomputable def r_IdxP (br : Br) (d : DskT) (xs : List PutT) (i : Int) := rdB br Try.prog hfb3 lp_Idx LO_IdxP Try.f92 2 [] [aP (pPs xs), aP (.clo 70 [rDk d]), aI xs.length, aI i]
noncomputable def q_IdxP (br : Br) (d : DskT) (xs : List PutT) := evB br Try.prog hfb3 lp_Idx LO_IdxP Try.f92 [cP (pPs xs), cP (.clo 70 [rDk d])]
noncomputable def E_IdxP : Entry := fun ivs => match ivs with
  | [.cv (.pv p), .cv (.pv (.clo f [.ref [.int .i64 w, a, b]]))] => [(isPs p && Nat.beq f 70 && isDk (.agg [.int .i64 w, a, b]), cI (if fiW (badPt (asDk (.agg [.int .i64 w, a, b])).secs.length w) (asPs p) < (asPs p).length then fiW (badPt (asDk (.agg [.int .i64 w, a, b])).secs.length w) (asPs p) else -1), [])]
  | _ => []
noncomputable def hfcP : List (FuncId × Entry) := [(92, E_IdxP)]
noncomputable def q_ConP (br : Br) (d : DskT) (xs : List PutT) := evB br Try.prog hfcP [] LO0 Try.f69 [cP (pPs xs), cP (.clo 70 [rDk d])]
noncomputable def E_ConP : Entry := fun ivs => match ivs with
  | [.cv (.pv p), .cv (.pv (.clo f [.ref [.int .i64 w, a, b]]))] => [(isPs p && Nat.beq f 70 && isDk (.agg [.int .i64 w, a, b]), cB ((asPs p).any (badPt (asDk (.agg [.int .i64 w, a, b])).secs.length w)), [])]
  | _ => []
noncomputable def LO_IdxI : LoopT := fun _ ls => match ls with
  | [(.pv p, none), (.pv (.clo f [.ref [.int .i64 lo], .ref [.int .i64 hh]]), none), (.pv (.int .i64 n), none), (.pv (.int .i64 i), none)] =>
    [(isI p && Nat.beq f 74 && true && (n == ((asI p).length : Int)) && (i == 0) && decide (fiW (badIn lo hh) (asI p) < (asI p).length), .ret, [aI (fiW (badIn lo hh) (asI p))]),
     (isI p && Nat.beq f 74 && true && (n == ((asI p).length : Int)) && (i == 0), .exit 0, [aX])]
  | _ => []
noncomputable def r_IdxI (br : Br) (lo hh : Int) (xs : List Int) (i : Int) := rdB br Try.prog hfb3 lp_Idx LO_IdxI Try.f93 2 [] [aP (pI xs), aP (.clo 74 [.ref [.int .i64 lo], .ref [.int .i64 hh]]), aI xs.length, aI i]
noncomputable def q_IdxI (br : Br) (lo hh : Int) (xs : List Int) := evB br Try.prog hfb3 lp_Idx LO_IdxI Try.f93 [cP (pI xs), cP (.clo 74 [.ref [.int .i64 lo], .ref [.int .i64 hh]])]
noncomputable def E_IdxI : Entry := fun ivs => match ivs with
  | [.cv (.pv p), .cv (.pv (.clo f [.ref [.int .i64 lo], .ref [.int .i64 hh]]))] => [(isI p && Nat.beq f 74 && true, cI (if fiW (badIn lo hh) (asI p) < (asI p).length then fiW (badIn lo hh) (asI p) else -1), [])]
  | _ => []
noncomputable def hfcI : List (FuncId × Entry) := [(93, E_IdxI)]
noncomputable def q_ConI (br : Br) (lo hh : Int) (xs : List Int) := evB br Try.prog hfcI [] LO0 Try.f73 [cP (pI xs), cP (.clo 74 [.ref [.int .i64 lo], .ref [.int .i64 hh]])]
noncomputable def E_ConI : Entry := fun ivs => match ivs with
  | [.cv (.pv p), .cv (.pv (.clo f [.ref [.int .i64 lo], .ref [.int .i64 hh]]))] => [(isI p && Nat.beq f 74 && true, cB ((asI p).any (badIn lo hh)), [])]
  | _ => []
/-! Behind. -/
noncomputable def hfb4 : List (FuncId × Entry) := (67, E_ConS) :: (69, E_ConP) :: (73, E_ConI) :: hfb2
noncomputable def q_IDk (br : Br) (d : DskT) := evB br Try.prog hfb4 [] LO0 Try.f34 [cP (pDk d)]
noncomputable def q_allW (br : Br) (xs : List Int) (lo hi : Int) := evB br Try.prog hfb4 [] LO0 Try.f38 [cP (pI xs), cI lo, cI hi]
noncomputable def E_allW : Entry := fun ivs => match ivs with | [.cv (.pv p), .cv (.pv (.int .i64 lo)), .cv (.pv (.int .i64 hi))] => [(isI p, cB (!(asI p).any (badIn lo hi)), [])] | _ => []
/-- Do they rise? -/
def risB : List Int → Bool
  | [] => true
  | [_] => true
  | a :: b :: r => decide (a < b) && risB (b :: r)
abbrev lp_ris : List (Nat × List Nat × List Nat) := [(2, [0, 3], [2])]
noncomputable def LO_ris : LoopT := fun _ ls => match ls with
  | [(.pv p, none), (.pv (.int .i64 i), none)] => [(isI p && (i == 1) && !risB (asI p), .ret, [aB false]), (isI p && (i == 1), .exit 0, [aX])]
  | _ => []
noncomputable def r_ris (br : Br) (xs : List Int) (i : Int) := rdB br Try.prog [] lp_ris LO_ris Try.f37 2 [] [aP (pI xs), aI i]
noncomputable def q_ris (br : Br) (xs : List Int) := evB br Try.prog [] lp_ris LO_ris Try.f37 [cP (pI xs)]
noncomputable def E_ris : Entry := fun ivs => match ivs with | [.cv (.pv p)] => [(isI p, cB (risB (asI p)), [])] | _ => []
end Go.Proofs.Ytjbjgeekglpmlaa
