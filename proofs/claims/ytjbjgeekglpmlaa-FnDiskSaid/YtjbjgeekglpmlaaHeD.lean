/- Disks that are drawn, by the reckoner, third part: what is stated. -/
import Derived.Test.YtjbjgeekglpmlaaHdP
namespace Go.Proofs.Ytjbjgeekglpmlaa
open Go.RowKit
set_option linter.unusedVariables false

noncomputable def dkEnc (r : Bool × DskT) : IV := .agg [.pv (.int .i64 r.2.wide), .lst 1 9 r.2.secs.length (r.2.secs.map .str) true, if r.1 = true then .pv .nils else .lst 2 47 r.2.puts.length (encP r.2.puts) false]
def dkR (r : Bool × DskT) : Prop := 0 ≤ r.2.wide ∧ r.2.wide ≤ 2001 ∧ 1 ≤ r.2.secs.length ∧ r.2.secs.length ≤ 5 ∧ (∀ s ∈ r.2.secs, s.size ≤ 64) ∧ r.2.puts.length ≤ 410 ∧ (∀ x ∈ r.2.puts, -1 ≤ x.at_ ∧ x.at_ ≤ 10 ∧ x.byt.size ≤ 64) ∧ (r.1 = true → r.2.puts = [])
noncomputable abbrev dkV (n : Nat) (l : List PV) (k : Nat) : (Bool × DskT) × Nat := drawV (fun n l k => q_Dk brC n l k (seedK l k)) dkEnc dkR 1500 n l k
noncomputable abbrev dkC (d : DskT) : IV := .agg [.pv (.int .i64 d.wide), .pv (pL d.secs), .pv (pPs d.puts)]
noncomputable def E_Dk : Entry := fun ivs => match ivs with
  | [.box 0 [.pv (.sl n l), .pv (.int .i64 a), .pv (.int .u64 g)]] => [(srcOk n l a g && decide (a ≤ 500000), dkC (dkV n l a.toNat).1.2, [sk n l (dkV n l a.toNat).2])]
  | _ => []
noncomputable def heb0 : List (FuncId × Entry) := (30, E_Dk) :: hcb0
/-- Numbers that are kept. -/
def keepV (l : List PV) : Nat → Nat → Nat → List Int × Nat
  | 0, i, k => ([], k)
  | c + 1, i, k => if (pickV l k 2 == 0) = true then (((i : Nat) : Int) :: (keepV l c (i + 1) (k + 1)).1, (keepV l c (i + 1) (k + 1)).2) else keepV l c (i + 1) (k + 1)
abbrev pI (xs : List Int) : PV := .sl xs.length (xs.map (PV.int .i64))
abbrev lp_Loss : List (Nat × List Nat × List Nat) := [(5, [2, 5, 6, 7, 8], [2, 5, 6, 7])]
noncomputable def LO_Loss : LoopT := fun _ ls => match ls with
  | [(.ptr y 0, some (.box [.pv (.int .i64 z0), .pv .nils, .pv .nils])), (.ptr x 0, some (.box [.pv (.sl n l), .pv (.int .i64 a), .pv (.int .u64 g)])), (.ptr z 0, some (.box [.pv w, .pv p, .pv q])), (.own v, some (.lst 1 e cn cl false)), (.pv (.int .i64 i), none)] =>
    [(srcOk n l a g && decide (a ≤ 600000) && Nat.beq x 20480 && Nat.beq y 8192 && Nat.beq z 24576 && (z0 == 0) && isPs q && Nat.beq v 28672 && Nat.beq e 2 && Nat.beq cn 0 && nilB cl && (i == 0), .exit 0,
      [aBx 2 zD, aBx 5 (sk n l (keepV l (min (asPs q).length 8) 0 a.toNat).2), aBx 6 [.pv w, .pv p, .pv q], aL 7 1 2 (keepV l (min (asPs q).length 8) 0 a.toNat).1.length ((keepV l (min (asPs q).length 8) 0 a.toNat).1.map (PV.int .i64))])]
  | _ => []
noncomputable def r_Loss (br : Br) (n : Nat) (l : List PV) (a g : Int) (w p : PV) (t : List PutT) (cn : Nat) (cl : List PV) (i : Int) := rdB br Try.prog heb0 lp_Loss LO_Loss Try.f12 5 [] [aBx 2 zD, aBx 5 (sx n l a g), aBx 6 [.pv w, .pv p, .pv (pPs t)], aL 7 1 2 cn cl, aI i]
noncomputable def q_Loss (br : Br) (n : Nat) (l : List PV) := evB br Try.prog heb0 lp_Loss LO_Loss Try.f12 [cP (.sl n l)]
noncomputable def q_Rot (br : Br) (n : Nat) (l : List PV) := evB br Try.prog heb0 [] LO0 Try.f18 [cP (.sl n l)]
/-- What is drawn out of all the bytes. -/
noncomputable def drawW {α : Type} [Inhabited α] (q : Nat → List PV → Option (IV × List (List CV))) (enc : α → IV) (R : α → Prop) (n : Nat) (l : List PV) : α := @Classical.epsilon α ⟨default⟩ fun x => R x ∧ q n l = some (enc x, [])
structure LossT where
  d : DskT
  keep : List Int
  torn : Int
instance : Inhabited LossT := ⟨⟨default, [], 0⟩⟩
noncomputable def lossEnc (r : LossT) : IV := .tup [dkC r.d, .cv (.lst 1 2 r.keep.length (r.keep.map (PV.int .i64)) false), cI r.torn]
def lossR (r : LossT) : Prop := dkR (false, r.d) ∧ r.keep.length ≤ 9 ∧ (∀ x ∈ r.keep, 0 ≤ x ∧ x ≤ 10) ∧ -1 ≤ r.torn ∧ r.torn ≤ 2002
noncomputable abbrev lossV (n : Nat) (l : List PV) : LossT := drawW (fun n l => q_Loss brC n l) lossEnc lossR n l
noncomputable def E_DLoss : Entry := fun ivs => match ivs with
  | [.cv (.pv (.sl n l))] => [(wfB n l && decide (n ≤ 1048577), .tup [dkC (lossV n l).d, cP (pI (lossV n l).keep), cI (lossV n l).torn], [])]
  | _ => []
structure RotT where
  d : DskT
  a : Int
  p : Int
  b : Int
instance : Inhabited RotT := ⟨⟨default, 0, 0, 0⟩⟩
noncomputable def rotEnc (r : RotT) : IV := .tup [dkC r.d, cI r.a, cI r.p, cI r.b]
def rotR (r : RotT) : Prop := dkR (false, r.d) ∧ 0 ≤ r.a ∧ r.a ≤ 10 ∧ 0 ≤ r.p ∧ r.p ≤ 2002 ∧ 0 ≤ r.b ∧ r.b ≤ 300
noncomputable abbrev rotV (n : Nat) (l : List PV) : RotT := drawW (fun n l => q_Rot brC n l) rotEnc rotR n l
noncomputable def E_DRot : Entry := fun ivs => match ivs with
  | [.cv (.pv (.sl n l))] => [(wfB n l && decide (n ≤ 1048577), rotEnc (rotV n l), [])]
  | _ => []
end Go.Proofs.Ytjbjgeekglpmlaa
