/- Disks: copies and changes, by the reckoner: what is stated. -/
import Derived.Test.YtjbjgeekglpmlaaHfP
namespace Go.Proofs.Ytjbjgeekglpmlaa
open Go.RowKit
set_option linter.unusedVariables false

noncomputable def q_CloP (br : Br) (x : PutT) (t : List PutT) := evB br Try.prog [] [] LO0 Try.f72 [cP (.sl (t.length + 1) (.int .i64 x.at_ :: .str x.byt :: encP t))]
noncomputable def q_CloS (br : Br) (x : ByteArray) (t : List ByteArray) := evB br Try.prog [] [(1000000, [5, 7], [])] LO0 Try.f71 [cP (.sl (t.length + 1) (.str x :: t.map .str))]
noncomputable def E_CloP1 : Entry := fun ivs => match ivs with | [.cv (.pv p)] => [(isPs p && decide (1 ≤ (asPs p).length), cP (pPs (asPs p)), [])] | _ => []
noncomputable def E_CloP : Entry := fun ivs => match ivs with | [.cv (.pv p)] => [(isPs p, cP (pPs (asPs p)), [])] | _ => []
noncomputable def E_CloS : Entry := fun ivs => match ivs with | [.cv (.pv p)] => [(isL p && decide (1 ≤ (asL p).length), .cv (.lst 1 9 (asL p).length ((asL p).map .str) true), [])] | _ => []
abbrev lp_Eq : List (Nat × List Nat × List Nat) := [(4, [0, 1, 12, 13], [4])]
/-- The same texts; the same writes. -/
noncomputable def sameS (xs ys : List ByteArray) : Bool := holds (xs = ys)
noncomputable def sameP (t u : List PutT) : Bool := holds (t = u)
noncomputable def LO_EqP : LoopT := fun _ ls => match ls with
  | [(.pv p, none), (.pv q, none), (.pv (.int .i64 n), none), (.pv (.int .i64 i), none)] =>
    [(isPs p && isPs q && (n == ((asPs p).length : Int)) && (i == 0) && Nat.beq (asPs p).length (asPs q).length && !sameP (asPs p) (asPs q), .ret, [aB false]), (isPs p && isPs q && (n == ((asPs p).length : Int)) && (i == 0) && Nat.beq (asPs p).length (asPs q).length, .exit 0, [aX])]
  | _ => []
noncomputable def r_EqP (br : Br) (t u : List PutT) (i : Int) := rdB br Try.prog [] lp_Eq LO_EqP Try.f42 4 [] [aP (pPs t), aP (pPs u), aI t.length, aI i]
noncomputable def q_EqP (br : Br) (t u : List PutT) := evB br Try.prog [] lp_Eq LO_EqP Try.f42 [cP (pPs t), cP (pPs u)]
noncomputable def E_EqP : Entry := fun ivs => match ivs with | [.cv (.pv p), .cv (.pv q)] => [(isPs p && isPs q, cB (sameP (asPs p) (asPs q)), [])] | _ => []
noncomputable def LO_EqS : LoopT := fun _ ls => match ls with
  | [(.pv p, none), (.pv q, none), (.pv (.int .i64 n), none), (.pv (.int .i64 i), none)] =>
    [(isL p && isL q && (n == ((asL p).length : Int)) && (i == 0) && Nat.beq (asL p).length (asL q).length && !sameS (asL p) (asL q), .ret, [aB false]), (isL p && isL q && (n == ((asL p).length : Int)) && (i == 0) && Nat.beq (asL p).length (asL q).length, .exit 0, [aX])]
  | _ => []
noncomputable def r_EqS (br : Br) (xs ys : List ByteArray) (i : Int) := rdB br Try.prog [] lp_Eq LO_EqS Try.f41 4 [] [aP (pL xs), aP (pL ys), aI xs.length, aI i]
noncomputable def q_EqS (br : Br) (xs ys : List ByteArray) := evB br Try.prog [] lp_Eq LO_EqS Try.f41 [cP (pL xs), cP (pL ys)]
noncomputable def E_EqS : Entry := fun ivs => match ivs with | [.cv (.pv p), .cv (.pv q)] => [(isL p && isL q, cB (sameS (asL p) (asL q)), [])] | _ => []
noncomputable def hgb0 : List (FuncId × Entry) := (72, E_CloP) :: (71, E_CloS) :: (42, E_EqP) :: (41, E_EqS) :: (34, E_DkOk) :: (38, E_allW) :: (37, E_ris) :: hfb2
noncomputable def q_Same (br : Br) (a b : DskT) := evB br Try.prog hgb0 [] LO0 Try.f16 [cP (pDk a), cP (pDk b)]
noncomputable def sameDk (a b : DskT) : Bool := (a.wide == b.wide) && sameS a.secs b.secs && sameP a.puts b.puts
noncomputable def E_Same : Entry := fun ivs => match ivs with | [.cv (.pv p), .cv (.pv q)] => [(isDk p && isDk q, cB (sameDk (asDk p) (asDk q)), [])] | _ => []
noncomputable def q_cpy (br : Br) (d : DskT) := evB br Try.prog hgb0 [(1000000, [], [])] LO0 Try.f35 [cP (pDk d)]
noncomputable def E_cpy : Entry := fun ivs => match ivs with | [.cv (.pv p)] => [(isDk p && decide (1 ≤ (asDk p).secs.length), .agg [.pv (.int .i64 (asDk p).wide), .lst 1 9 (asDk p).secs.length ((asDk p).secs.map .str) true, .pv (pPs (asDk p).puts)], [])] | _ => []
/-! The flush. -/
def inS (m : Nat) (t : List PutT) : Bool := t.all fun x => decide (0 ≤ x.at_) && decide (x.at_ < (m : Int))
abbrev lp_fl : List (Nat × List Nat × List Nat) := [(1, [0, 7, 8, 9], [0]), (2000013, [0, 1, 16], [])]
noncomputable def LO_fl : LoopT := fun _ ls => match ls with
  | [(.ptr 0 0, some (.box [.pv w, .lst 1 e cn cl true, .pv q])), (.pv p, none), (.pv (.int .i64 n), none), (.pv (.int .i64 i), none)] =>
    [(isL (.sl cn cl) && isPs p && Nat.beq e 9 && (n == ((asPs p).length : Int)) && (i == 0) && inS cn (asPs p), .exit 0, [aB0 [.pv w, .lst 1 9 cn ((flushS (asPs p) (asL (.sl cn cl))).map .str) true, .pv q]])]
  | _ => []
noncomputable def r_fl (br : Br) (w : PV) (ss : List ByteArray) (q : PV) (t : List PutT) (i : Int) := rdB br Try.prog [] lp_fl LO_fl Try.f36 1 [0] [aB0 [.pv w, .lst 1 9 ss.length (ss.map .str) true, .pv q], aP (pPs t), aI t.length, aI i]
noncomputable def q_fl (br : Br) (w : PV) (ss : List ByteArray) (t : List PutT) := evB br Try.prog [] lp_fl LO_fl Try.f36 [.box 0 [.pv w, .lst 1 9 ss.length (ss.map .str) true, .pv (pPs t)]]
noncomputable def E_fl : Entry := fun ivs => match ivs with
  | [.box 0 [.pv w, .lst 1 e cn cl true, .pv q]] => [(isL (.sl cn cl) && isPs q && Nat.beq e 9 && inS cn (asPs q), .tup [], [[.pv w, .lst 1 9 cn ((flushS (asPs q) (asL (.sl cn cl))).map .str) true, .pv .nils]])]
  | _ => []
noncomputable def hgb1 : List (FuncId × Entry) := (36, E_fl) :: (35, E_cpy) :: (16, E_Same) :: hgb0
noncomputable def q_Flush (br : Br) (d : DskT) := evB br Try.prog hgb1 [(1000000, [], [11])] LO0 Try.f14 [cP (pDk d)]
end Go.Proofs.Ytjbjgeekglpmlaa
