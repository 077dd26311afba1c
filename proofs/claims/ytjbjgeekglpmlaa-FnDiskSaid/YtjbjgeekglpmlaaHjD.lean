/- Disks: DiskRead, the law, by the reckoner: what is stated. -/
import Derived.Test.YtjbjgeekglpmlaaHiR
import Derived.Test.YtjbjgeekglpmlaaHeP
namespace Go.Proofs.Ytjbjgeekglpmlaa
open Go.RowKit
set_option linter.unusedVariables false

noncomputable def hjb0 : List (FuncId × Entry) := (44, E_read) :: hhb0
noncomputable def q_DiskRead (br : Br) (d : DskT) (i : Int) := evB br Try.prog hjb0 [] LO0 Try.f17 [cP (pDk d), cI i]
noncomputable def E_DiskRead : Entry := fun ivs => match ivs with
  | [.cv (.pv p), .cv (.pv (.int .i64 i))] => [(isDk p && dskB (asDk p) && decide (0 ≤ i) && decide (i < ((asDk p).secs.length : Int)), .tup [cS (readS (asDk p).puts (asDk p).secs i.toNat), cI 0], [])]
  | _ => []
noncomputable def q_long2 (br : Br) (n m : Nat) (l k : List PV) := evB br Try.prog [] [] LO0 Try.f11 [cP (.sl n l), cP (.sl m k)]
def E_long2 : Entry := fun ivs => match ivs with
  | [.cv (.pv (.sl n l)), .cv (.pv (.sl m k))] => [(true, cB (decide ((n : Int) > 1048576) || decide ((m : Int) > 1048576)), [])]
  | _ => []
/-- Loss and rot, as one answer each. -/
def lossC (d : DskT) (xs : List Int) (t : Int) : Int := bif dskB d then (bif lossOk d xs t then 0 else 2) else 1
def lossY (d : DskT) (xs : List Int) (t : Int) : DskT := bif dskB d && lossOk d xs t then lossD d xs t else ⟨0, [], []⟩
noncomputable def E_Loss1 : Entry := fun ivs => match ivs with
  | [.cv (.pv p), .cv (.pv q), .cv (.pv (.int .i64 t))] => [(isDk p && isI q, .tup [dkC (lossY (asDk p) (asI q) t), cI (lossC (asDk p) (asI q) t)], [])]
  | _ => []
def flY (d : DskT) : DskT := bif dskB d then flD d else ⟨0, [], []⟩
noncomputable def E_Flush1 : Entry := fun ivs => match ivs with | [.cv (.pv p)] => [(isDk p && dskB (asDk p), dkC (flY (asDk p)), [])] | _ => []
def rotC (d : DskT) (a q b : Int) : Int := bif dskB d then (bif rotOk d a q b then 0 else 2) else 1
def rotY (d : DskT) (a q b : Int) : DskT := bif dskB d && rotOk d a q b then rotD d a q b else ⟨0, [], []⟩
noncomputable def E_Rot1 : Entry := fun ivs => match ivs with
  | [.cv (.pv p), .cv (.pv (.int .i64 a)), .cv (.pv (.int .i64 q)), .cv (.pv (.int .i64 b))] => [(isDk p, .tup [dkC (rotY (asDk p) a q b), cI (rotC (asDk p) a q b)], [])]
  | _ => []
noncomputable def hjb1 : List (FuncId × Entry) := (11, E_long2) :: (12, E_DLoss) :: (13, E_DkOk) :: (14, E_Flush1) :: (15, E_Loss1) :: (16, E_Same) :: (17, E_DiskRead) :: (18, E_DRot) :: [(19, E_Rot1)]
/-- Is the sector written to? -/
def touchB (t : List PutT) (i : Int) : Bool := t.any fun p => p.at_ == i
/-- What is left of the sectors that nobody wrote. -/
def yOk (d y : DskT) (c : Int) : Prop := c = 0 → y.secs.length = d.secs.length ∧ ∀ i, i < d.secs.length → touchB d.puts i = false → y.secs.getD i ⟨#[]⟩ = d.secs.getD i ⟨#[]⟩
abbrev lp_law : List (Nat × List Nat × List Nat) := [(14, [1, 5, 8, 11, 12, 13], [1, 4]), (18, [1, 5, 8, 11, 12, 13, 14, 15], [1, 5, 8, 11, 12, 13, 14])]
abbrev dBx (d : DskT) : List CV := [.pv (.int .i64 d.wide), .pv (pL d.secs), .pv (pPs d.puts)]
noncomputable def LO_law : LoopT := fun key ls => match key with
  | 14 => (match ls with
    | [(.pv more, none), (.ptr x 0, some (.box [.pv (.int .i64 dw), .pv da, .pv db])), (.ptr y 0, some (.box [.pv (.int .i64 fw), .pv fa, .pv fb])), (.ptr z 0, some (.box [.pv (.int .i64 yw), .pv ya, .pv yb])), (.pv (.int .i64 c), none), (.pv (.int .i64 i), none)] =>
      [(isDk (.agg [.int .i64 dw, da, db]) && isDk (.agg [.int .i64 fw, fa, fb]) && isDk (.agg [.int .i64 yw, ya, yb]) && dskB (asDk (.agg [.int .i64 dw, da, db])) && holds (asDk (.agg [.int .i64 fw, fa, fb]) = flD (asDk (.agg [.int .i64 dw, da, db]))) && holds (yOk (asDk (.agg [.int .i64 dw, da, db])) (asDk (.agg [.int .i64 yw, ya, yb])) c) &&
        Nat.beq x 20480 && Nat.beq y 32768 && Nat.beq z 45056 && (i == 0), .exit 0, [aP more, aX])]
    | _ => [])
  | 18 => (match ls with
    | [(.pv more, none), (.ptr x 0, some (.box [.pv (.int .i64 dw), .pv da, .pv db])), (.ptr y 0, some (.box [.pv (.int .i64 fw), .pv fa, .pv fb])), (.ptr z 0, some (.box [.pv (.int .i64 yw), .pv ya, .pv yb])), (.pv (.int .i64 c), none), (.pv (.int .i64 i), none), (.pv (.bool t), none), (.pv (.int .i64 k), none)] =>
      [(isDk (.agg [.int .i64 dw, da, db]) && isDk (.agg [.int .i64 fw, fa, fb]) && isDk (.agg [.int .i64 yw, ya, yb]) && Nat.beq x 20480 && Nat.beq y 32768 && Nat.beq z 45056 && (k == 0) && !t, .exit 2,
        [aP more, aBx 5 [.pv (.int .i64 dw), .pv da, .pv db], aBx 8 [.pv (.int .i64 fw), .pv fa, .pv fb], aBx 11 [.pv (.int .i64 yw), .pv ya, .pv yb], aI c, aI i, aB (touchB (asDk (.agg [.int .i64 dw, da, db])).puts i)])]
    | _ => [])
  | _ => []
noncomputable def r_18 (br : Br) (more : PV) (d f y : DskT) (c i : Int) (t : Bool) (k : Int) := rdB br Try.prog hjb1 lp_law LO_law Try.f4 18 [] [aP more, aBx 5 (dBx d), aBx 8 (dBx f), aBx 11 (dBx y), aI c, aI i, aB t, aI k]
noncomputable def r_14 (br : Br) (more : PV) (d f y : DskT) (c i : Int) := rdB br Try.prog hjb1 lp_law LO_law Try.f4 14 [] [aP more, aBx 5 (dBx d), aBx 8 (dBx f), aBx 11 (dBx y), aI c, aI i]
noncomputable def q_law (br : Br) (n m : Nat) (l k : List PV) := evB br Try.prog hjb1 lp_law LO_law Try.f4 [cP (.sl n l), cP (.sl m k)]
end Go.Proofs.Ytjbjgeekglpmlaa
