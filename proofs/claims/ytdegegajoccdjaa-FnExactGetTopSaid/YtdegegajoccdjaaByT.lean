/- Trees (printed by vx/trees.sh; numbers of one seat). -/
import Derived.Test.YtdegegajoccdjaaByD
namespace Go.Proofs.Ytdegegajoccdjaa
set_option linter.unusedVariables false
set_option maxRecDepth 100000
theorem q_St_eq (s : ByteArray) (t : ByteArray) (n : Int) : q_St brC s t n =
 brC (!(decide (1 ≤ (↑(ByteArray.size s) : Int)) && decide ((↑(ByteArray.size s) : Int) ≤ 16)))
  (some ((IV.cv (CV.pv (PV.str { data := #[] })), [])))
  (brC (decide (n > 2000))
    (some ((IV.cv (CV.pv (PV.str { data := #[] })), [])))
    (brC (decide (IntKind.wrap IntKind.i64 ((bif bif true then decide (n > 0) else decide (n < 0) then n else 0) - IntKind.wrap IntKind.i64 (IntKind.wrap IntKind.i64 (2 * (↑(ByteArray.size s) : Int)) + (↑(ByteArray.size t) : Int))) < 0))
      (some ((IV.cv (CV.pv (PV.str { data := #[] })), [])))
      (brC (decide (ByteArray.size s + ByteArray.size t ≤ 9223372036854775807) && true)
        (brC (decide (0 ≤ IntKind.wrap IntKind.i64 ((bif bif true then decide (n > 0) else decide (n < 0) then n else 0) - IntKind.wrap IntKind.i64 (IntKind.wrap IntKind.i64 (2 * (↑(ByteArray.size s) : Int)) + (↑(ByteArray.size t) : Int)))) && decide (IntKind.wrap IntKind.i64 ((bif bif true then decide (n > 0) else decide (n < 0) then n else 0) - IntKind.wrap IntKind.i64 (IntKind.wrap IntKind.i64 (2 * (↑(ByteArray.size s) : Int)) + (↑(ByteArray.size t) : Int))) ≤ 100000))
          (brC (decide (ByteArray.size (s ++ t) + ByteArray.size (zerV (Int.toNat (IntKind.wrap IntKind.i64 ((bif bif true then decide (n > 0) else decide (n < 0) then n else 0) - IntKind.wrap IntKind.i64 (IntKind.wrap IntKind.i64 (2 * (↑(ByteArray.size s) : Int)) + (↑(ByteArray.size t) : Int)))))) ≤ 9223372036854775807) && true)
            (brC (decide (ByteArray.size (s ++ t ++ zerV (Int.toNat (IntKind.wrap IntKind.i64 ((bif bif true then decide (n > 0) else decide (n < 0) then n else 0) - IntKind.wrap IntKind.i64 (IntKind.wrap IntKind.i64 (2 * (↑(ByteArray.size s) : Int)) + (↑(ByteArray.size t) : Int)))))) + ByteArray.size s ≤ 9223372036854775807) && true)
              (some ((IV.cv (CV.pv (PV.str (s ++ t ++ zerV (Int.toNat (IntKind.wrap IntKind.i64 ((bif bif true then decide (n > 0) else decide (n < 0) then n else 0) - IntKind.wrap IntKind.i64 (IntKind.wrap IntKind.i64 (2 * (↑(ByteArray.size s) : Int)) + (↑(ByteArray.size t) : Int))))) ++ s))), [])))
              (none))
            (none))
          (none))
        (none)))) := by kernel_rfl
theorem q_l18Num_eq (s : ByteArray) : q_l18Num brC s =
 brC (decide (ByteArray.size s ≤ 7) && 0 == 0 && IntKind.wrap IntKind.i64 ((↑(ByteArray.size s) : Int) - 1) == (↑(ByteArray.size s) : Int) - 1)
  (some ((IV.cv (CV.pv (PV.int IntKind.i64 (numV s))), [])))
  (none) := by kernel_rfl
theorem q_within_eq (n : Int) (a : Int) (b : Int) : q_within brC n a b =
 brC (decide (a ≤ n))
  (some ((IV.cv (CV.pv (PV.bool (decide (n ≤ b)))), [])))
  (some ((IV.cv (CV.pv (PV.bool false)), []))) := by kernel_rfl
theorem r_little_eq (n : Int) (l : List PV) (m : Int) (i : Int) : r_little brC n l m i =
 brC (decide (i < m))
  (brC (Nat.beq (List.length [PV.int IntKind.u8 (IntKind.wrap IntKind.u8 n)]) (1 * 1) && (decide (List.length l + 1 ≤ 140737488351232) && decide ((List.length l + 1) * 1 ≤ 140737488355328)))
    (some (Sum.inl [(AV.pv (PV.int IntKind.i64 (Int.fdiv n (2 ^ 8))), none), (AV.own 20480, some (Ob.lst 1 5 (List.length l + 1) (l ++ [PV.int IntKind.u8 (IntKind.wrap IntKind.u8 n)]) false)), (AV.pv (PV.int IntKind.i64 m), none), (AV.pv (PV.int IntKind.i64 (IntKind.wrap IntKind.i64 (i + 1))), none)]))
    (none))
  (some (Sum.inr (Ex.exit 0, [(AV.own 20480, some (Ob.lst 1 5 (List.length l) l false))]))) := by kernel_rfl
theorem q_number_eq (s : ByteArray) : q_number brC s =
 brC (decide (ByteArray.size s ≤ 7) && 0 == 0 && IntKind.wrap IntKind.i64 ((↑(ByteArray.size s) : Int) - 1) == (↑(ByteArray.size s) : Int) - 1)
  (some ((IV.cv (CV.pv (PV.int IntKind.i64 (numV s))), [])))
  (none) := by kernel_rfl
theorem q_fix_eq (n : Int) (m : Int) : q_fix brC n m =
 brC (decide (0 ≤ n) && holds (n < 9223372036854775808) && Nat.beq 20480 20480 && Nat.beq 5 5 && Nat.beq 0 0 && nilB [] && decide (0 ≤ m) && decide (m ≤ 8) && 0 == 0)
  (brC (Nat.beq (List.length (pvB (litL (Int.toNat m) (Int.toNat n)))) (List.length (pvB (litL (Int.toNat m) (Int.toNat n)))) && Option.isSome (bytesOf (pvB (litL (Int.toNat m) (Int.toNat n)))) && true)
    (some ((IV.cv (CV.pv (PV.str { data := List.toArray (Option.getD (bytesOf (pvB (litL (Int.toNat m) (Int.toNat n)))) []) })), [])))
    (none))
  (none) := by kernel_rfl
theorem q_SSt_eq (s : ByteArray) (t : ByteArray) (n : Int) : q_SSt brC s t n =
 brC (decide ((↑(ByteArray.size s) : Int) < 1))
  (some ((IV.cv (CV.pv (PV.str { data := #[] })), [])))
  (brC (decide ((↑(ByteArray.size s) : Int) > 16))
    (some ((IV.cv (CV.pv (PV.str { data := #[] })), [])))
    (brC (decide (n > 2000))
      (some ((IV.cv (CV.pv (PV.str { data := #[] })), [])))
      (brC (decide (IntKind.wrap IntKind.i64 (IntKind.wrap IntKind.i64 (2 * (↑(ByteArray.size s) : Int)) + (↑(ByteArray.size t) : Int)) > n))
        (some ((IV.cv (CV.pv (PV.str { data := #[] })), [])))
        (brC (decide (ByteArray.size s + ByteArray.size t ≤ 9223372036854775807) && true)
          (brC (decide (0 ≤ IntKind.wrap IntKind.i64 (IntKind.wrap IntKind.i64 (n - IntKind.wrap IntKind.i64 (2 * (↑(ByteArray.size s) : Int))) - (↑(ByteArray.size t) : Int))) && decide (IntKind.wrap IntKind.i64 (IntKind.wrap IntKind.i64 (n - IntKind.wrap IntKind.i64 (2 * (↑(ByteArray.size s) : Int))) - (↑(ByteArray.size t) : Int)) = IntKind.wrap IntKind.i64 (IntKind.wrap IntKind.i64 (n - IntKind.wrap IntKind.i64 (2 * (↑(ByteArray.size s) : Int))) - (↑(ByteArray.size t) : Int))) && decide (IntKind.wrap IntKind.i64 (IntKind.wrap IntKind.i64 (n - IntKind.wrap IntKind.i64 (2 * (↑(ByteArray.size s) : Int))) - (↑(ByteArray.size t) : Int)) ≤ 140737488351232) && decide (IntKind.wrap IntKind.i64 (IntKind.wrap IntKind.i64 (n - IntKind.wrap IntKind.i64 (2 * (↑(ByteArray.size s) : Int))) - (↑(ByteArray.size t) : Int)) * (↑1 : Int) ≤ 281474976710656))
            (brC (Nat.beq (List.length (List.flatten (List.replicate (Int.toNat (IntKind.wrap IntKind.i64 (IntKind.wrap IntKind.i64 (n - IntKind.wrap IntKind.i64 (2 * (↑(ByteArray.size s) : Int))) - (↑(ByteArray.size t) : Int)))) [PV.int IntKind.u8 0]))) (Int.toNat (IntKind.wrap IntKind.i64 (IntKind.wrap IntKind.i64 (n - IntKind.wrap IntKind.i64 (2 * (↑(ByteArray.size s) : Int))) - (↑(ByteArray.size t) : Int)))) && Option.isSome (bytesOf (List.flatten (List.replicate (Int.toNat (IntKind.wrap IntKind.i64 (IntKind.wrap IntKind.i64 (n - IntKind.wrap IntKind.i64 (2 * (↑(ByteArray.size s) : Int))) - (↑(ByteArray.size t) : Int)))) [PV.int IntKind.u8 0]))) && true)
              (brC (decide (ByteArray.size (s ++ t) + ByteArray.size { data := List.toArray (Option.getD (bytesOf (List.flatten (List.replicate (Int.toNat (IntKind.wrap IntKind.i64 (IntKind.wrap IntKind.i64 (n - IntKind.wrap IntKind.i64 (2 * (↑(ByteArray.size s) : Int))) - (↑(ByteArray.size t) : Int)))) [PV.int IntKind.u8 0]))) []) } ≤ 9223372036854775807) && true)
                (brC (decide (ByteArray.size (s ++ t ++ { data := List.toArray (Option.getD (bytesOf (List.flatten (List.replicate (Int.toNat (IntKind.wrap IntKind.i64 (IntKind.wrap IntKind.i64 (n - IntKind.wrap IntKind.i64 (2 * (↑(ByteArray.size s) : Int))) - (↑(ByteArray.size t) : Int)))) [PV.int IntKind.u8 0]))) []) }) + ByteArray.size s ≤ 9223372036854775807) && true)
                  (some ((IV.cv (CV.pv (PV.str (s ++ t ++ { data := List.toArray (Option.getD (bytesOf (List.flatten (List.replicate (Int.toNat (IntKind.wrap IntKind.i64 (IntKind.wrap IntKind.i64 (n - IntKind.wrap IntKind.i64 (2 * (↑(ByteArray.size s) : Int))) - (↑(ByteArray.size t) : Int)))) [PV.int IntKind.u8 0]))) []) } ++ s))), [])))
                  (none))
                (none))
              (none))
            (none))
          (none))))) := by kernel_rfl
theorem q_rone_eq (s : ByteArray) (b : Bool) : q_rone brC s b =
 brC (decide (0 ≤ 1) && decide (ByteArray.size s ≤ 2000000))
  (brC (ByteArray.toList (tkS s 1) == [])
    (some ((IV.cv (CV.pv (PV.int IntKind.i64 (Int.ofNat 0))), [[CV.pv (PV.str (tkR s 1)), CV.pv (PV.bool (tkB s b 1))]])))
    (brC (decide (0 ≤ 0) && decide (0 < (↑(ByteArray.size (tkS s 1)) : Int)) && true)
      (some ((IV.cv (CV.pv (PV.int IntKind.i64 (IntKind.wrap IntKind.i64 (↑(UInt8.toNat (List.getD (Array.toList (ByteArray.data (tkS s 1))) 0 0)) : Int)))), [[CV.pv (PV.str (tkR s 1)), CV.pv (PV.bool (tkB s b 1))]])))
      (none)))
  (none) := by kernel_rfl
theorem q_SUn_eq (s : ByteArray) (n : Int) : q_SUn brC s n =
 brC (decide ((↑(ByteArray.size s) : Int) > 2000))
  (some ((IV.tup [IV.cv (CV.pv (PV.str { data := #[] })), IV.cv (CV.pv (PV.str { data := #[] })), IV.cv (CV.pv (PV.bool false))], [])))
  (brC (!(decide (1 ≤ n) && decide (n ≤ 16)))
    (some ((IV.tup [IV.cv (CV.pv (PV.str { data := #[] })), IV.cv (CV.pv (PV.str { data := #[] })), IV.cv (CV.pv (PV.bool false))], [])))
    (brC (decide (IntKind.wrap IntKind.i64 (2 * n) > (↑(ByteArray.size s) : Int)))
      (some ((IV.tup [IV.cv (CV.pv (PV.str { data := #[] })), IV.cv (CV.pv (PV.str { data := #[] })), IV.cv (CV.pv (PV.bool false))], [])))
      (brC (decide (0 ≤ 0) && decide (0 ≤ n) && decide (n ≤ (↑(ByteArray.size s) : Int)) && true && true)
        (brC (decide (0 ≤ IntKind.wrap IntKind.i64 ((↑(ByteArray.size s) : Int) - n)) && decide (IntKind.wrap IntKind.i64 ((↑(ByteArray.size s) : Int) - n) ≤ (↑(ByteArray.size s) : Int)) && decide ((↑(ByteArray.size s) : Int) ≤ (↑(ByteArray.size s) : Int)) && true && true)
          (brC (!ByteArray.toList (ByteArray.extract s 0 (Int.toNat n)) == ByteArray.toList (ByteArray.extract s (Int.toNat (IntKind.wrap IntKind.i64 ((↑(ByteArray.size s) : Int) - n))) (Int.toNat (↑(ByteArray.size s) : Int))))
            (some ((IV.tup [IV.cv (CV.pv (PV.str { data := #[] })), IV.cv (CV.pv (PV.str { data := #[] })), IV.cv (CV.pv (PV.bool false))], [])))
            (brC (decide (0 ≤ 0) && decide (0 ≤ n) && decide (n ≤ (↑(ByteArray.size s) : Int)) && true && true)
              (brC (decide (0 ≤ n) && decide (n ≤ IntKind.wrap IntKind.i64 ((↑(ByteArray.size s) : Int) - n)) && decide (IntKind.wrap IntKind.i64 ((↑(ByteArray.size s) : Int) - n) ≤ (↑(ByteArray.size s) : Int)) && true && true)
                (some ((IV.tup [IV.cv (CV.pv (PV.str (ByteArray.extract s 0 (Int.toNat n)))), IV.cv (CV.pv (PV.str (ByteArray.extract s (Int.toNat n) (Int.toNat (IntKind.wrap IntKind.i64 ((↑(ByteArray.size s) : Int) - n)))))), IV.cv (CV.pv (PV.bool true))], [])))
                (none))
              (none)))
          (none))
        (none)))) := by kernel_rfl
theorem r_fix_eq (n : Int) (m : Int) (l : List PV) (i : Int) : r_fix brC n m l i =
 brC (decide (i < m))
  (brC (Nat.beq (List.length [PV.int IntKind.u8 (IntKind.wrap IntKind.u8 (bits BinOp.and IntKind.i64 n 255))]) (1 * 1) && (decide (List.length l + 1 ≤ 140737488351232) && decide ((List.length l + 1) * 1 ≤ 140737488355328)))
    (some (Sum.inl [(AV.pv (PV.int IntKind.i64 (Int.fdiv n (2 ^ 8))), none), (AV.pv (PV.int IntKind.i64 m), none), (AV.own 20480, some (Ob.lst 1 5 (List.length l + 1) (l ++ [PV.int IntKind.u8 (IntKind.wrap IntKind.u8 (bits BinOp.and IntKind.i64 n 255))]) false)), (AV.pv (PV.int IntKind.i64 (IntKind.wrap IntKind.i64 (i + 1))), none)]))
    (none))
  (some (Sum.inr (Ex.exit 0, [(AV.own 20480, some (Ob.lst 1 5 (List.length l) l false))]))) := by kernel_rfl
theorem r_number_eq (s : ByteArray) (n : Int) (i : Int) : r_number brC s n i =
 brC (decide (i ≥ 0))
  (brC (decide (0 ≤ i) && decide (i < (↑(ByteArray.size s) : Int)) && true)
    (some (Sum.inl [(AV.pv (PV.str s), none), (AV.pv (PV.int IntKind.i64 (IntKind.wrap IntKind.i64 (IntKind.wrap IntKind.i64 (n * 2 ^ 8) + IntKind.wrap IntKind.i64 (↑(UInt8.toNat (List.getD (Array.toList (ByteArray.data s)) (Int.toNat i) 0)) : Int)))), none), (AV.pv (PV.int IntKind.i64 (IntKind.wrap IntKind.i64 (i - 1))), none)]))
    (none))
  (some (Sum.inr (Ex.exit 0, [(AV.pv (PV.int IntKind.i64 n), none)]))) := by kernel_rfl
theorem r_l18Num_eq (s : ByteArray) (n : Int) (i : Int) : r_l18Num brC s n i =
 brC (decide (i ≥ 0))
  (brC (decide (0 ≤ i) && decide (i < (↑(ByteArray.size s) : Int)) && true)
    (some (Sum.inl [(AV.pv (PV.str s), none), (AV.pv (PV.int IntKind.i64 (bits BinOp.or IntKind.i64 (IntKind.wrap IntKind.i64 (n * 2 ^ 8)) (IntKind.wrap IntKind.i64 (↑(UInt8.toNat (List.getD (Array.toList (ByteArray.data s)) (Int.toNat i) 0)) : Int)))), none), (AV.pv (PV.int IntKind.i64 (IntKind.wrap IntKind.i64 (i - 1))), none)]))
    (none))
  (some (Sum.inr (Ex.exit 0, [(AV.pv (PV.int IntKind.i64 n), none)]))) := by kernel_rfl
theorem q_In_eq (n : Int) (a : Int) (b : Int) : q_In brC n a b =
 brC (decide (n ≥ a))
  (some ((IV.cv (CV.pv (PV.bool (decide (n ≤ b)))), [])))
  (some ((IV.cv (CV.pv (PV.bool false)), []))) := by kernel_rfl
theorem q_take_eq (s : ByteArray) (b : Bool) (n : Int) : q_take brC s b n =
 brC (decide (n > (↑(ByteArray.size s) : Int)))
  (some ((IV.cv (CV.pv (PV.str { data := #[] })), [[CV.pv (PV.str s), CV.pv (PV.bool true)]])))
  (brC (decide (0 ≤ 0) && decide (0 ≤ n) && decide (n ≤ (↑(ByteArray.size s) : Int)) && true && true)
    (brC (decide (0 ≤ n) && decide (n ≤ (↑(ByteArray.size s) : Int)) && decide ((↑(ByteArray.size s) : Int) ≤ (↑(ByteArray.size s) : Int)) && true && true)
      (some ((IV.cv (CV.pv (PV.str (ByteArray.extract s 0 (Int.toNat n)))), [[CV.pv (PV.str (ByteArray.extract s (Int.toNat n) (Int.toNat (↑(ByteArray.size s) : Int)))), CV.pv (PV.bool b)]])))
      (none))
    (none)) := by kernel_rfl
theorem q_zeros_eq (n : Int) : q_zeros brC n =
 brC (decide (0 ≤ bif bif true then decide (n > 0) else decide (n < 0) then n else 0) && decide ((bif bif true then decide (n > 0) else decide (n < 0) then n else 0) ≤ 100000) && decide ([0] = [0]))
  (some ((IV.cv (CV.pv (PV.str (zerV (Int.toNat (bif bif true then decide (n > 0) else decide (n < 0) then n else 0))))), [])))
  (none) := by kernel_rfl
theorem q_Un_eq (s : ByteArray) (n : Int) : q_Un brC s n =
 brC (!(decide (1 ≤ n) && decide (n ≤ 16)))
  (some ((IV.tup [IV.cv (CV.pv (PV.str { data := #[] })), IV.cv (CV.pv (PV.str { data := #[] })), IV.cv (CV.pv (PV.bool false))], [])))
  (brC (!(decide (IntKind.wrap IntKind.i64 (2 * n) ≤ (↑(ByteArray.size s) : Int)) && decide ((↑(ByteArray.size s) : Int) ≤ 2000)))
    (some ((IV.tup [IV.cv (CV.pv (PV.str { data := #[] })), IV.cv (CV.pv (PV.str { data := #[] })), IV.cv (CV.pv (PV.bool false))], [])))
    (brC (decide (0 ≤ 0) && decide (0 ≤ n) && decide (n ≤ (↑(ByteArray.size s) : Int)) && true && true)
      (brC (decide (0 ≤ IntKind.wrap IntKind.i64 ((↑(ByteArray.size s) : Int) - n)) && decide (IntKind.wrap IntKind.i64 ((↑(ByteArray.size s) : Int) - n) ≤ (↑(ByteArray.size s) : Int)) && decide ((↑(ByteArray.size s) : Int) ≤ (↑(ByteArray.size s) : Int)) && true && true)
        (brC (!ByteArray.toList (ByteArray.extract s 0 (Int.toNat n)) == ByteArray.toList (ByteArray.extract s (Int.toNat (IntKind.wrap IntKind.i64 ((↑(ByteArray.size s) : Int) - n))) (Int.toNat (↑(ByteArray.size s) : Int))))
          (some ((IV.tup [IV.cv (CV.pv (PV.str { data := #[] })), IV.cv (CV.pv (PV.str { data := #[] })), IV.cv (CV.pv (PV.bool false))], [])))
          (brC (decide (0 ≤ 0) && decide (0 ≤ n) && decide (n ≤ (↑(ByteArray.size s) : Int)) && true && true)
            (brC (decide (0 ≤ n) && decide (n ≤ IntKind.wrap IntKind.i64 ((↑(ByteArray.size s) : Int) - n)) && decide (IntKind.wrap IntKind.i64 ((↑(ByteArray.size s) : Int) - n) ≤ (↑(ByteArray.size s) : Int)) && true && true)
              (some ((IV.tup [IV.cv (CV.pv (PV.str (ByteArray.extract s 0 (Int.toNat n)))), IV.cv (CV.pv (PV.str (ByteArray.extract s (Int.toNat n) (Int.toNat (IntKind.wrap IntKind.i64 ((↑(ByteArray.size s) : Int) - n)))))), IV.cv (CV.pv (PV.bool true))], [])))
              (none))
            (none)))
        (none))
      (none))) := by kernel_rfl
theorem q_little_eq (n : Int) (m : Int) : q_little brC n m =
 brC (decide (0 ≤ n) && Nat.beq 20480 20480 && Nat.beq 5 5 && Nat.beq 0 0 && nilB [] && decide (0 ≤ m) && decide (m ≤ 8) && 0 == 0)
  (brC (Nat.beq (List.length (pvB (litL (Int.toNat m) (Int.toNat n)))) (List.length (pvB (litL (Int.toNat m) (Int.toNat n)))) && Option.isSome (bytesOf (pvB (litL (Int.toNat m) (Int.toNat n)))) && true)
    (some ((IV.cv (CV.pv (PV.str { data := List.toArray (Option.getD (bytesOf (pvB (litL (Int.toNat m) (Int.toNat n)))) []) })), [])))
    (none))
  (none) := by kernel_rfl
end Go.Proofs.Ytdegegajoccdjaa
