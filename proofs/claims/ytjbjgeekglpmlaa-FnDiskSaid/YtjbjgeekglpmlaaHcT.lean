/- Trees (printed by vx/trees.sh; numbers of one seat). -/
import Derived.Test.YtjbjgeekglpmlaaHcD
namespace Go.Proofs.Ytjbjgeekglpmlaa
set_option linter.unusedVariables false
set_option maxRecDepth 100000
theorem r_By_eq (n : Nat) (l : List PV) (a : Int) (g : Int) (w : Int) (cn : Nat) (cl : List PV) (i : Int) : r_By brC n l a g w cn cl i =
 brC (decide (i > 0))
  (brC (srcOk n l a g && decide (a ≤ 1000000))
    (brC (srcOk n l (↑(pikK (Int.toNat a) w) : Int) (seedK l (pikK (Int.toNat a) w)))
      (brC (decide (0 ≤ pikV l (Int.toNat a) w) && decide (pikV l (Int.toNat a) w < (↑cn : Int)))
        (brC (Nat.beq (List.length [PV.int IntKind.u8 (IntKind.wrap IntKind.u8 (drawK l (Int.toNat (↑(pikK (Int.toNat a) w) : Int))))]) 1 && Nat.ble (Int.toNat (pikV l (Int.toNat a) w) * 1 + 1) (List.length cl))
          (some (Sum.inl [(AV.ptr 0 0, some (Ob.box [CV.pv (PV.sl n l), CV.pv (PV.int IntKind.i64 ((↑(pikK (Int.toNat a) w) : Int) + 1)), CV.pv (PV.int IntKind.u64 (seedK l (Int.toNat (↑(pikK (Int.toNat a) w) : Int) + 1)))])), (AV.pv (PV.int IntKind.i64 w), none), (AV.own 20480, some (Ob.lst 1 5 cn (List.take (Int.toNat (pikV l (Int.toNat a) w) * 1) cl ++ [PV.int IntKind.u8 (IntKind.wrap IntKind.u8 (drawK l (Int.toNat (↑(pikK (Int.toNat a) w) : Int))))] ++ List.drop (Int.toNat (pikV l (Int.toNat a) w) * 1 + 1) cl) true)), (AV.pv (PV.int IntKind.i64 (IntKind.wrap IntKind.i64 (i - 1))), none)]))
          (none))
        (none))
      (none))
    (none))
  (some (Sum.inr (Ex.exit 0, [(AV.ptr 0 0, some (Ob.box [CV.pv (PV.sl n l), CV.pv (PV.int IntKind.i64 a), CV.pv (PV.int IntKind.u64 g)])), (AV.own 20480, some (Ob.lst 1 5 cn cl true))]))) := by kernel_rfl
theorem r_New0_eq (m : Int) (w : Int) (t : ByteArray) (i : Int) : r_New0 brC m w t i =
 brC (decide (i < m))
  (some (Sum.inl [(AV.pv (PV.int IntKind.i64 m), none), (AV.ptr 16384 0, some (Ob.box [CV.pv (PV.int IntKind.i64 (Int.ofNat 0)), CV.pv PV.nils, CV.pv PV.nils])), (AV.ptr 24576 0, some (Ob.box [CV.pv (PV.int IntKind.i64 w), CV.lst 1 9 1 [PV.str t] true, CV.pv PV.nils])), (AV.pv (PV.str t), none), (AV.pv (PV.int IntKind.i64 (IntKind.wrap IntKind.i64 (i + 1))), none)]))
  (some (Sum.inr (Ex.exit 0, [(AV.ptr 16384 0, some (Ob.box [CV.pv (PV.int IntKind.i64 (Int.ofNat 0)), CV.pv PV.nils, CV.pv PV.nils])), (AV.ptr 24576 0, some (Ob.box [CV.pv (PV.int IntKind.i64 w), CV.pv PV.nils, CV.pv PV.nils]))]))) := by kernel_rfl
theorem q_New_eq (m : Int) (w : Int) : q_New brC m w =
 brC (!(decide (1 ≤ m) && decide (m ≤ 400)))
  (some ((IV.tup [IV.agg [CV.pv (PV.int IntKind.i64 (Int.ofNat 0)), CV.pv PV.nils, CV.pv PV.nils], IV.cv (CV.pv (PV.int IntKind.i64 (Int.ofNat 2)))], [])))
  (brC (!(decide (1 ≤ w) && decide (w ≤ 2000)))
    (some ((IV.tup [IV.agg [CV.pv (PV.int IntKind.i64 (Int.ofNat 0)), CV.pv PV.nils, CV.pv PV.nils], IV.cv (CV.pv (PV.int IntKind.i64 (Int.ofNat 2)))], [])))
    (brC (decide (0 ≤ w) && decide (w = w) && decide (w ≤ 140737488351232) && decide (w * (↑1 : Int) ≤ 281474976710656))
      (brC (Nat.beq (List.length (List.flatten (List.replicate (Int.toNat w) [PV.int IntKind.u8 0]))) (Int.toNat w) && Option.isSome (bytesOf (List.flatten (List.replicate (Int.toNat w) [PV.int IntKind.u8 0]))) && true)
        (brC (decide (1 ≤ m) && decide (m ≤ 400) && 0 == 0 && 0 == 0 && Nat.beq 16384 16384 && Nat.beq 24576 24576)
          (some ((IV.tup [IV.agg [CV.pv (PV.int IntKind.i64 w), CV.lst 1 9 (Int.toNat m) (List.replicate (Int.toNat m) (PV.str { data := List.toArray (Option.getD (bytesOf (List.flatten (List.replicate (Int.toNat w) [PV.int IntKind.u8 0]))) []) })) true, CV.pv PV.nils], IV.cv (CV.pv (PV.int IntKind.i64 (Int.ofNat 0)))], [])))
          (none))
        (none))
      (none))) := by kernel_rfl
theorem r_New_eq (m : Int) (w : Int) (t : ByteArray) (i : Int) (cn : Nat) (cl : List PV) : r_New brC m w t i cn cl =
 brC (decide (i < m))
  (brC (Nat.beq (List.length [PV.str t]) (1 * 1) && (decide (cn + 1 ≤ 140737488351232) && decide ((cn + 1) * 16 ≤ 140737488355328)))
    (some (Sum.inl [(AV.pv (PV.int IntKind.i64 m), none), (AV.ptr 16384 0, some (Ob.box [CV.pv (PV.int IntKind.i64 (Int.ofNat 0)), CV.pv PV.nils, CV.pv PV.nils])), (AV.ptr 24576 0, some (Ob.box [CV.pv (PV.int IntKind.i64 w), CV.lst 1 9 (cn + 1) (cl ++ [PV.str t]) true, CV.pv PV.nils])), (AV.pv (PV.str t), none), (AV.pv (PV.int IntKind.i64 (IntKind.wrap IntKind.i64 (i + 1))), none)]))
    (none))
  (some (Sum.inr (Ex.exit 0, [(AV.ptr 16384 0, some (Ob.box [CV.pv (PV.int IntKind.i64 (Int.ofNat 0)), CV.pv PV.nils, CV.pv PV.nils])), (AV.ptr 24576 0, some (Ob.box [CV.pv (PV.int IntKind.i64 w), CV.lst 1 9 cn cl true, CV.pv PV.nils]))]))) := by kernel_rfl
theorem q_By_eq (n : Nat) (l : List PV) (a : Int) (g : Int) (w : Int) : q_By brC n l a g w =
 brC (decide (0 ≤ w) && decide (w = w) && decide (w ≤ 140737488351232) && decide (w * (↑1 : Int) ≤ 281474976710656))
  (brC (srcOk n l a g && decide (a ≤ 1000000))
    (brC (srcOk n l (↑(pikK (Int.toNat a) 5) : Int) (seedK l (pikK (Int.toNat a) 5)) && decide ((↑(pikK (Int.toNat a) 5) : Int) ≤ 900000) && decide (1 ≤ w) && decide (w ≤ 2000) && Nat.beq 20480 20480 && Nat.beq 5 5 && isBy (Int.toNat w) (List.flatten (List.replicate (Int.toNat w) [PV.int IntKind.u8 0])) && w == (↑(Int.toNat w) : Int) && decide (0 ≤ pikV l (Int.toNat a) 5) && decide (pikV l (Int.toNat a) 5 ≤ 10))
      (brC (Nat.beq (List.length (List.map byteP (Prod.fst (byF l w (Int.toNat (pikV l (Int.toNat a) 5)) (Int.toNat (↑(pikK (Int.toNat a) 5) : Int)) (asBy (List.flatten (List.replicate (Int.toNat w) [PV.int IntKind.u8 0]))))))) (Int.toNat w) && Option.isSome (bytesOf (List.map byteP (Prod.fst (byF l w (Int.toNat (pikV l (Int.toNat a) 5)) (Int.toNat (↑(pikK (Int.toNat a) 5) : Int)) (asBy (List.flatten (List.replicate (Int.toNat w) [PV.int IntKind.u8 0]))))))) && true)
        (some ((IV.cv (CV.pv (PV.str { data := List.toArray (Option.getD (bytesOf (List.map byteP (Prod.fst (byF l w (Int.toNat (pikV l (Int.toNat a) 5)) (Int.toNat (↑(pikK (Int.toNat a) 5) : Int)) (asBy (List.flatten (List.replicate (Int.toNat w) [PV.int IntKind.u8 0]))))))) []) })), [[CV.pv (PV.sl n l), CV.pv (PV.int IntKind.i64 (↑(Prod.snd (byF l w (Int.toNat (pikV l (Int.toNat a) 5)) (Int.toNat (↑(pikK (Int.toNat a) 5) : Int)) (asBy (List.flatten (List.replicate (Int.toNat w) [PV.int IntKind.u8 0]))))) : Int)), CV.pv (PV.int IntKind.u64 (seedK l (Prod.snd (byF l w (Int.toNat (pikV l (Int.toNat a) 5)) (Int.toNat (↑(pikK (Int.toNat a) 5) : Int)) (asBy (List.flatten (List.replicate (Int.toNat w) [PV.int IntKind.u8 0])))))))]])))
        (none))
      (none))
    (none))
  (none) := by kernel_rfl
theorem q_In_eq (n : Int) (a : Int) (b : Int) : q_In brC n a b =
 brC (decide (n ≥ a))
  (some ((IV.cv (CV.pv (PV.bool (decide (n ≤ b)))), [])))
  (some ((IV.cv (CV.pv (PV.bool false)), []))) := by kernel_rfl
end Go.Proofs.Ytjbjgeekglpmlaa
