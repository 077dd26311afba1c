/- Disks that are drawn, by the reckoner, second part: what is stated. -/
import Derived.Test.YtjbjgeekglpmlaaHcP
namespace Go.Proofs.Ytjbjgeekglpmlaa
open Go.RowKit
set_option linter.unusedVariables false

noncomputable abbrev byV (w : Int) (n : Nat) (l : List PV) (k : Nat) : ByteArray × Nat := @drawV ByteArray ⟨⟨#[]⟩⟩ (fun n l k => q_By brC n l k (seedK l k) w) (fun s : ByteArray => cS s) (fun s => (s.size : Int) = w) 20 n l k
noncomputable def E_By : Entry := fun ivs => match ivs with
  | [.box 0 [.pv (.sl n l), .pv (.int .i64 a), .pv (.int .u64 g)], .cv (.pv (.int .i64 w))] => [(srcOk n l a g && decide (a ≤ 800000) && decide (1 ≤ w) && decide (w ≤ 2000), cS (byV w n l a.toNat).1, [sk n l (byV w n l a.toNat).2])]
  | _ => []
noncomputable def hdb0 : List (FuncId × Entry) := (64, E_By) :: (63, E_New) :: hcb0
/-- Sectors, one by one. -/
noncomputable def secV (w : Int) (n : Nat) (l : List PV) : Nat → Nat → List ByteArray × Nat
  | 0, k => ([], k)
  | c + 1, k => ((byV w n l k).1 :: (secV w n l c (byV w n l k).2).1, (secV w n l c (byV w n l k).2).2)
/-- Writes, one by one. -/
noncomputable def putV (w m : Int) (n : Nat) (l : List PV) : Nat → Nat → List PutT × Nat
  | 0, k => ([], k)
  | c + 1, k => (⟨pikV l k m, (byV w n l (pikK k m)).1⟩ :: (putV w m n l c (byV w n l (pikK k m)).2).1, (putV w m n l c (byV w n l (pikK k m)).2).2)
/-- As many rounds as ever are run. -/
noncomputable def fuel : Nat := Classical.choose (⟨500, rfl⟩ : ∃ n : Nat, n = 500)
theorem fuel_eq : fuel = 500 := Classical.choose_spec (⟨500, rfl⟩ : ∃ n : Nat, n = 500)
/-- Writes until there are many. -/
def fillV (s : ByteArray) (l : List PV) : Nat → Nat → List PutT → List PutT × Nat
  | 0, k, t => (t, k)
  | f + 1, k, t => if (t.length : Int) < 399 + pikV l k 3 then fillV s l f (pikK k 3) (t ++ [⟨0, s⟩]) else (t, pikK k 3)
abbrev lp_Dk : List (Nat × List Nat × List Nat) := [(4, [0, 2, 3, 5, 23, 24], [0, 2, 3, 5]), (9, [0, 2, 3, 5, 7], [0, 2, 3]), (20, [0, 2, 3], [0, 2, 3]), (1000000, [], [19, 22, 110]), (2000027, [3, 1, 28], []), (2000042, [3, 2, 43], []), (2000059, [3, 2, 60], []), (2000077, [3, 1, 78], []), (2000100, [3, 2, 101, 3, 1, 103], [])]
noncomputable def LO_Dk : LoopT := fun key ls => bif Nat.beq key 4 then (match ls with
  | [(.ptr 0 0, some (.box [.pv (.sl n l), .pv (.int .i64 a), .pv (.int .u64 g)])), (.ptr y 0, some (.box [.pv (.int .i64 z0), .pv .nils, .pv .nils])), (.ptr z 0, some (.box [.pv (.int .i64 w), .lst 1 e cn cl true, .pv .nils])), (.pv (.int .i64 m), none), (.pv (.int .i64 len), none), (.pv (.int .i64 i), none)] =>
    [(srcOk n l a g && decide (a ≤ 700000) && Nat.beq y 8192 && Nat.beq z 12288 && Nat.beq e 9 && (z0 == 0) && decide (1 ≤ w) && decide (w ≤ 2000) && (len == (cn : Int)) && decide (cn ≤ 10) && Nat.beq cl.length cn && (i == 0), .exit 0,
      [aB0 (sk n l (secV w n l cn a.toNat).2), aBx 2 zD, aBx 3 [.pv (.int .i64 w), .lst 1 9 cn ((secV w n l cn a.toNat).1.map .str) true, .pv .nils], aI m])]
  | _ => []) else bif Nat.beq key 9 then (match ls with
  | [(.ptr 0 0, some (.box [.pv (.sl n l), .pv (.int .i64 a), .pv (.int .u64 g)])), (.ptr y 0, some (.box [.pv (.int .i64 z0), .pv .nils, .pv .nils])), (.ptr z 0, some (.box [.pv (.int .i64 w), .lst 1 e cn cl true, .pv .nils])), (.pv (.int .i64 m), none), (.pv (.int .i64 i), none)] =>
    [(srcOk n l a g && decide (a ≤ 700000) && Nat.beq y 8192 && Nat.beq z 12288 && Nat.beq e 9 && (z0 == 0) && decide (1 ≤ w) && decide (w ≤ 2000) && (i == 0), .exit 2, [aB0 (sx n l a g), aBx 2 zD, aBx 3 [.pv (.int .i64 w), .lst 1 9 cn cl true, .pv .nils]]),
     (srcOk n l a g && decide (a ≤ 700000) && Nat.beq y 8192 && Nat.beq z 12288 && Nat.beq e 9 && (z0 == 0) && decide (1 ≤ w) && decide (w ≤ 2000) && decide (1 ≤ i) && decide (i ≤ 10) && decide (1 ≤ m), .exit 2,
      [aB0 (sk n l (putV w m n l i.toNat a.toNat).2), aBx 2 zD, aBx 3 [.pv (.int .i64 w), .lst 1 9 cn cl true, .lst 2 47 (putV w m n l i.toNat a.toNat).1.length (encP (putV w m n l i.toNat a.toNat).1) false]])]
  | _ => []) else (match ls with
  | [(.ptr 0 0, some (.box [.pv (.sl n l), .pv (.int .i64 a), .pv (.int .u64 g)])), (.ptr y 0, some (.box [.pv (.int .i64 z0), .pv .nils, .pv .nils])), (.ptr z 0, some (.box [.pv (.int .i64 w), .lst 1 e cn cl true, .pv .nils]))] =>
    [(srcOk n l a g && decide (a ≤ 700000) && Nat.beq y 8192 && Nat.beq z 12288 && Nat.beq e 9 && (z0 == 0) && isL (.sl cn cl) && decide (1 ≤ (asL (.sl cn cl)).length), .exit 5,
      [aB0 (sk n l (fillV ((asL (.sl cn cl)).headD ⟨#[]⟩) l fuel a.toNat []).2), aBx 2 zD, aBx 3 [.pv (.int .i64 w), .lst 1 9 cn cl true, .lst 2 47 (fillV ((asL (.sl cn cl)).headD ⟨#[]⟩) l fuel a.toNat []).1.length (encP (fillV ((asL (.sl cn cl)).headD ⟨#[]⟩) l fuel a.toNat []).1) false]])]
  | [(.ptr 0 0, some (.box [.pv (.sl n l), .pv (.int .i64 a), .pv (.int .u64 g)])), (.ptr y 0, some (.box [.pv (.int .i64 z0), .pv .nils, .pv .nils])), (.ptr z 0, some (.box [.pv (.int .i64 w), .lst 1 e cn cl true, .lst 2 e2 pn pl false]))] =>
    [(srcOk n l a g && decide (a ≤ 700000) && Nat.beq y 8192 && Nat.beq z 12288 && Nat.beq e 9 && Nat.beq e2 47 && (z0 == 0) && isL (.sl cn cl) && decide (1 ≤ (asL (.sl cn cl)).length) && isPs (.sl pn pl) && decide ((asPs (.sl pn pl)).length ≤ 300), .exit 5,
      [aB0 (sk n l (fillV ((asL (.sl cn cl)).headD ⟨#[]⟩) l fuel a.toNat (asPs (.sl pn pl))).2), aBx 2 zD, aBx 3 [.pv (.int .i64 w), .lst 1 9 cn cl true, .lst 2 47 (fillV ((asL (.sl cn cl)).headD ⟨#[]⟩) l fuel a.toNat (asPs (.sl pn pl))).1.length (encP (fillV ((asL (.sl cn cl)).headD ⟨#[]⟩) l fuel a.toNat (asPs (.sl pn pl))).1) false]])]
  | _ => [])
noncomputable def r_Dk4 (br : Br) (n : Nat) (l : List PV) (a g w m : Int) (cn : Nat) (cl : List PV) (len i : Int) := rdB br Try.prog hdb0 lp_Dk LO_Dk Try.f30 4 [0] [aB0 (sx n l a g), aBx 2 zD, aBx 3 [.pv (.int .i64 w), .lst 1 9 cn cl true, .pv .nils], aI m, aI len, aI i]
noncomputable def r_Dk9a (br : Br) (n : Nat) (l : List PV) (a g w m : Int) (cn : Nat) (cl : List PV) (i : Int) := rdB br Try.prog hdb0 lp_Dk LO_Dk Try.f30 9 [0] [aB0 (sx n l a g), aBx 2 zD, aBx 3 [.pv (.int .i64 w), .lst 1 9 cn cl true, .pv .nils], aI m, aI i]
noncomputable def r_Dk9b (br : Br) (n : Nat) (l : List PV) (a g w m : Int) (cn : Nat) (cl : List PV) (pn : Nat) (pl : List PV) (i : Int) := rdB br Try.prog hdb0 lp_Dk LO_Dk Try.f30 9 [0] [aB0 (sx n l a g), aBx 2 zD, aBx 3 [.pv (.int .i64 w), .lst 1 9 cn cl true, .lst 2 47 pn pl false], aI m, aI i]
noncomputable def r_Dk20a (br : Br) (n : Nat) (l : List PV) (a g w : Int) (cn : Nat) (cl : List PV) := rdB br Try.prog hdb0 lp_Dk LO_Dk Try.f30 20 [0] [aB0 (sx n l a g), aBx 2 zD, aBx 3 [.pv (.int .i64 w), .lst 1 9 cn cl true, .pv .nils]]
noncomputable def r_Dk20b (br : Br) (n : Nat) (l : List PV) (a g w : Int) (cn : Nat) (cl : List PV) (pn : Nat) (pl : List PV) := rdB br Try.prog hdb0 lp_Dk LO_Dk Try.f30 20 [0] [aB0 (sx n l a g), aBx 2 zD, aBx 3 [.pv (.int .i64 w), .lst 1 9 cn cl true, .lst 2 47 pn pl false]]
noncomputable def q_Dk (br : Br) (n : Nat) (l : List PV) (a g : Int) := evB br Try.prog hdb0 lp_Dk LO_Dk Try.f30 [.box 0 (sx n l a g)]
end Go.Proofs.Ytjbjgeekglpmlaa
