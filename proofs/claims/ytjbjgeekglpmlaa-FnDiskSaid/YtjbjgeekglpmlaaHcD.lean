/- Disks that are drawn, by the reckoner: what is stated. -/
import Derived.Test.YtjbjgeekglpmlaaHaP
import Derived.Test.YtjbjgeekglpmlaaHbL
namespace Go.Proofs.Ytjbjgeekglpmlaa
open Go.RowKit
set_option linter.unusedVariables false

abbrev aB0 (c : List CV) : AV × Option Ob := (.ptr 0 0, some (.box c))
noncomputable def q_In (br : Br) (n a b : Int) := evB br Try.prog [] [] LO0 Try.f33 [cI n, cI a, cI b]
def E_In : Entry := fun ivs => match ivs with
  | [.cv (.pv (.int .i64 n)), .cv (.pv (.int .i64 a)), .cv (.pv (.int .i64 b))] => [(true, cB (decide (a ≤ n) && decide (n ≤ b)), [])]
  | _ => []
noncomputable def hcb0 : List (FuncId × Entry) := (33, E_In) :: (31, E_one) :: (57, E_among) :: (32, E_pik) :: dab0
def zeroS (w : Int) : ByteArray := bs (List.replicate w.toNat 0)
abbrev lp_New : List (Nat × List Nat × List Nat) := [(6, [0, 4, 6, 7, 8], [4, 6]), (1000000, [32], [29, 34])]
abbrev zD : List CV := [.pv (.int .i64 0), .pv .nils, .pv .nils]
noncomputable def LO_New : LoopT := fun _ ls => match ls with
  | [(.pv (.int .i64 m), none), (.ptr y 0, some (.box [.pv (.int .i64 z0), .pv .nils, .pv .nils])), (.ptr z 0, some (.box [.pv (.int .i64 w), .pv .nils, .pv .nils])), (.pv (.str t), none), (.pv (.int .i64 i), none)] =>
    [(decide (1 ≤ m) && decide (m ≤ 400) && (i == 0) && (z0 == 0) && Nat.beq y 16384 && Nat.beq z 24576, .exit 0, [aBx 4 zD, aBx 6 [.pv (.int .i64 w), .lst 1 9 m.toNat (List.replicate m.toNat (.str t)) true, .pv .nils]])]
  | _ => []
noncomputable def r_New0 (br : Br) (m w : Int) (t : ByteArray) (i : Int) := rdB br Try.prog hcb0 lp_New LO_New Try.f63 6 [] [aI m, aBx 4 zD, aBx 6 [.pv (.int .i64 w), .pv .nils, .pv .nils], aS t, aI i]
noncomputable def r_New (br : Br) (m w : Int) (t : ByteArray) (i : Int) (cn : Nat) (cl : List PV) := rdB br Try.prog hcb0 lp_New LO_New Try.f63 6 [] [aI m, aBx 4 zD, aBx 6 [.pv (.int .i64 w), .lst 1 9 cn cl true, .pv .nils], aS t, aI i]
noncomputable def q_New (br : Br) (m w : Int) := evB br Try.prog hcb0 lp_New LO_New Try.f63 [cI m, cI w]
noncomputable def E_New : Entry := fun ivs => match ivs with
  | [.cv (.pv (.int .i64 m)), .cv (.pv (.int .i64 w))] => [(decide (1 ≤ m) && decide (m ≤ 400) && decide (1 ≤ w) && decide (w ≤ 2000), .tup [.agg [.pv (.int .i64 w), .lst 1 9 m.toNat (List.replicate m.toNat (.str (zeroS w))) true, .pv .nils], cI 0], [])]
  | _ => []
/-! Bytes. -/
def byteD (l : List PV) (k : Nat) : UInt8 := UInt8.ofNat (drawK l k).toNat
def byF (l : List PV) (w : Int) : Nat → Nat → List UInt8 → List UInt8 × Nat
  | 0, k, b => (b, k)
  | c + 1, k, b => byF l w c (pikK k w + 1) (b.set (pikV l k w).toNat (byteD l (pikK k w)))
noncomputable def isBy (cn : Nat) (cl : List PV) : Bool := holds (∃ b : List UInt8, cl = b.map byteP ∧ b.length = cn)
noncomputable def asBy (cl : List PV) : List UInt8 := @Classical.epsilon _ ⟨[]⟩ fun b : List UInt8 => cl = b.map byteP
abbrev lp_By : List (Nat × List Nat × List Nat) := [(3, [0, 1, 5, 6], [0, 5]), (1000000, [8], [])]
noncomputable def LO_By : LoopT := fun _ ls => match ls with
  | [(.ptr 0 0, some (.box [.pv (.sl n l), .pv (.int .i64 a), .pv (.int .u64 g)])), (.pv (.int .i64 w), none), (.own x, some (.lst 1 e cn cl true)), (.pv (.int .i64 i), none)] =>
    [(srcOk n l a g && decide (a ≤ 900000) && decide (1 ≤ w) && decide (w ≤ 2000) && Nat.beq x 20480 && Nat.beq e 5 && isBy cn cl && (w == (cn : Int)) && decide (0 ≤ i) && decide (i ≤ 10), .exit 0,
      [aB0 (sk n l (byF l w i.toNat a.toNat (asBy cl)).2), aM 5 1 5 cn ((byF l w i.toNat a.toNat (asBy cl)).1.map byteP)])]
  | _ => []
noncomputable def r_By (br : Br) (n : Nat) (l : List PV) (a g w : Int) (cn : Nat) (cl : List PV) (i : Int) := rdB br Try.prog hcb0 lp_By LO_By Try.f64 3 [0] [aB0 (sx n l a g), aI w, aM 5 1 5 cn cl, aI i]
noncomputable def q_By (br : Br) (n : Nat) (l : List PV) (a g w : Int) := evB br Try.prog hcb0 lp_By LO_By Try.f64 [.box 0 (sx n l a g), cI w]
end Go.Proofs.Ytjbjgeekglpmlaa
