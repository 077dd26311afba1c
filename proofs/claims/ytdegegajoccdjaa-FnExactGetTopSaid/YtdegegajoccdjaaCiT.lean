/- Trees (printed by vx/trees.sh; numbers of one seat). -/
import Derived.Test.YtdegegajoccdjaaCiD
namespace Go.Proofs.Ytdegegajoccdjaa
set_option linter.unusedVariables false
set_option maxRecDepth 100000
theorem r_IPut_eq (a : Int) (b : Int) (c : Int) (l : List SeT) (s : ByteArray) (i : Int) : r_IPut brC a b c l s i =
 brC (decide (i < (↑(List.length l) : Int)))
  (brC (decide (0 ≤ i) && decide (i < (↑(List.length l) : Int)))
    (brC (Nat.ble (Int.toNat i * 2) (List.length (encSe l)) && (Nat.ble 2 (List.length (List.drop (Int.toNat i * 2) (encSe l))) && (PV.isInt IntKind.i64 (List.headD (List.drop (Int.toNat i * 2) (encSe l)) PV.nilp) && (PV.isInt IntKind.i64 (List.headD (List.tail (List.drop (Int.toNat i * 2) (encSe l))) PV.nilp) && true && true) && true) && true))
      (brC (decide (0 ≤ PV.asInt (List.headD (List.drop (Int.toNat i * 2) (encSe l)) PV.nilp)) && decide (0 ≤ 1) && decide (1 ≤ 8))
        (brC (decide (0 ≤ PV.asInt (List.headD (List.tail (List.drop (Int.toNat i * 2) (encSe l))) PV.nilp)) && decide (0 ≤ 2) && decide (2 ≤ 8))
          (brC (decide (ByteArray.size (litV (PV.asInt (List.headD (List.drop (Int.toNat i * 2) (encSe l)) PV.nilp)) 1) + ByteArray.size (litV (PV.asInt (List.headD (List.tail (List.drop (Int.toNat i * 2) (encSe l))) PV.nilp)) 2) ≤ 9223372036854775807) && true)
            (brC (Nat.beq 333 333 && Nat.beq 5 5 && isBy (PV.sl (ByteArray.size s) (bytesP s)) && holds (ByteArray.size (asBy (PV.sl (ByteArray.size s) (bytesP s))) + ByteArray.size (litV (PV.asInt (List.headD (List.drop (Int.toNat i * 2) (encSe l)) PV.nilp)) 1 ++ litV (PV.asInt (List.headD (List.tail (List.drop (Int.toNat i * 2) (encSe l))) PV.nilp)) 2) ≤ 100000000))
              (some (Sum.inl [(AV.bad, some (Ob.lst 2 50 (List.length l) (encSe l) true)), (AV.ptr 4096 0, some (Ob.box [CV.pv (PV.int IntKind.i64 a), CV.pv (PV.int IntKind.i64 b), CV.pv (PV.int IntKind.i64 c), CV.bad])), (AV.ptr 12288 0, some (Ob.box [CV.al 333, CV.lst 1 5 (ByteArray.size (asBy (PV.sl (ByteArray.size s) (bytesP s)) ++ (litV (PV.asInt (List.headD (List.drop (Int.toNat i * 2) (encSe l)) PV.nilp)) 1 ++ litV (PV.asInt (List.headD (List.tail (List.drop (Int.toNat i * 2) (encSe l))) PV.nilp)) 2))) (bytesP (asBy (PV.sl (ByteArray.size s) (bytesP s)) ++ (litV (PV.asInt (List.headD (List.drop (Int.toNat i * 2) (encSe l)) PV.nilp)) 1 ++ litV (PV.asInt (List.headD (List.tail (List.drop (Int.toNat i * 2) (encSe l))) PV.nilp)) 2))) false])), (AV.own 0, none), (AV.pv (PV.int IntKind.i64 (↑(List.length l) : Int)), none), (AV.pv (PV.int IntKind.i64 (IntKind.wrap IntKind.i64 (i + 1))), none)]))
              (none))
            (none))
          (none))
        (none))
      (none))
    (none))
  (some (Sum.inr (Ex.exit 0, [(AV.bad, some (Ob.lst 2 50 (List.length l) (encSe l) true)), (AV.ptr 4096 0, some (Ob.box [CV.pv (PV.int IntKind.i64 a), CV.pv (PV.int IntKind.i64 b), CV.pv (PV.int IntKind.i64 c), CV.bad])), (AV.ptr 12288 0, some (Ob.box [CV.al 333, CV.lst 1 5 (ByteArray.size s) (bytesP s) false]))]))) := by kernel_rfl
theorem r_IPut0_eq (p : PV) (a : Int) (b : Int) (c : Int) (s : ByteArray) : r_IPut0 brC p a b c s =
 some (Sum.inr (Ex.exit 0, [(AV.pv p, none), (AV.ptr 4096 0, some (Ob.box [CV.pv (PV.int IntKind.i64 a), CV.pv (PV.int IntKind.i64 b), CV.pv (PV.int IntKind.i64 c), CV.pv (PV.sl 0 [])])), (AV.ptr 12288 0, some (Ob.box [CV.al 333, CV.lst 1 5 (ByteArray.size s) (bytesP s) false]))])) := by kernel_rfl
theorem q_IPut0_eq (a : Int) (b : Int) (c : Int) : q_IPut0 brC a b c =
 brC (!topB a b c [])
  (some ((IV.cv (CV.pv (PV.str { data := #[] })), [])))
  (brC (decide (0 ≤ b) && decide (0 ≤ 1) && decide (1 ≤ 8))
    (brC (decide (0 ≤ c) && decide (0 ≤ 4) && decide (4 ≤ 8))
      (brC (decide (ByteArray.size (litV b 1) + ByteArray.size (litV c 4) ≤ 9223372036854775807) && true)
        (brC (decide (ByteArray.size (litV b 1 ++ litV c 4) + ByteArray.size (litV (↑0 : Int) 1) ≤ 9223372036854775807) && true)
          (brC (Nat.beq 335 335 && holds (ByteArray.size (litV b 1 ++ litV c 4 ++ litV (↑0 : Int) 1) ≤ 100000000))
            (brC (Nat.beq 4096 4096 && Nat.beq 12288 12288 && Nat.beq 333 333 && Nat.beq 5 5 && isBy (PV.sl (ByteArray.size (litV b 1 ++ litV c 4 ++ litV (↑0 : Int) 1)) (bytesP (litV b 1 ++ litV c 4 ++ litV (↑0 : Int) 1))) && (↑0 : Int) == 0 && 0 == 0)
              (brC (decide (0 ≤ a) && decide (0 ≤ 4) && decide (4 ≤ 8))
                (brC (Nat.beq 5 5 && isBy (PV.sl (ByteArray.size (asBy (PV.sl (ByteArray.size (litV b 1 ++ litV c 4 ++ litV (↑0 : Int) 1)) (bytesP (litV b 1 ++ litV c 4 ++ litV (↑0 : Int) 1))))) (bytesP (asBy (PV.sl (ByteArray.size (litV b 1 ++ litV c 4 ++ litV (↑0 : Int) 1)) (bytesP (litV b 1 ++ litV c 4 ++ litV (↑0 : Int) 1)))))) && Nat.ble 1 (ByteArray.size (asBy (PV.sl (ByteArray.size (litV b 1 ++ litV c 4 ++ litV (↑0 : Int) 1)) (bytesP (litV b 1 ++ litV c 4 ++ litV (↑0 : Int) 1))))))
                  (brC (decide (0 ≤ 1700) && decide (1700 ≤ 100000) && holds (ByteArray.size (litV a 4) ≤ 1000000) && holds (ByteArray.size (asBy (PV.sl (ByteArray.size (asBy (PV.sl (ByteArray.size (litV b 1 ++ litV c 4 ++ litV (↑0 : Int) 1)) (bytesP (litV b 1 ++ litV c 4 ++ litV (↑0 : Int) 1))))) (bytesP (asBy (PV.sl (ByteArray.size (litV b 1 ++ litV c 4 ++ litV (↑0 : Int) 1)) (bytesP (litV b 1 ++ litV c 4 ++ litV (↑0 : Int) 1))))))) ≤ 1000000))
                    (some ((IV.cv (CV.pv (PV.str (hidS (stV (litV a 4) (asBy (PV.sl (ByteArray.size (asBy (PV.sl (ByteArray.size (litV b 1 ++ litV c 4 ++ litV (↑0 : Int) 1)) (bytesP (litV b 1 ++ litV c 4 ++ litV (↑0 : Int) 1))))) (bytesP (asBy (PV.sl (ByteArray.size (litV b 1 ++ litV c 4 ++ litV (↑0 : Int) 1)) (bytesP (litV b 1 ++ litV c 4 ++ litV (↑0 : Int) 1))))))) 1700)))), [])))
                    (none))
                  (none))
                (none))
              (none))
            (none))
          (none))
        (none))
      (none))
    (none)) := by kernel_rfl
theorem q_IPut_eq (a : Int) (b : Int) (c : Int) (l : List SeT) : q_IPut brC a b c l =
 brC (isSes (PV.sl (List.length l) (encSe l)) && Nat.beq 50 50)
  (brC (!topB a b c (asSes (PV.sl (List.length l) (encSe l))))
    (brC (Nat.beq (List.length l) (List.length l))
      (some ((IV.cv (CV.pv (PV.str { data := #[] })), [[CV.lst 2 50 (List.length l) (encSe l) true]])))
      (none))
    (brC (decide (0 ≤ b) && decide (0 ≤ 1) && decide (1 ≤ 8))
      (brC (decide (0 ≤ c) && decide (0 ≤ 4) && decide (4 ≤ 8))
        (brC (decide (ByteArray.size (litV b 1) + ByteArray.size (litV c 4) ≤ 9223372036854775807) && true)
          (brC (decide (ByteArray.size (litV b 1 ++ litV c 4) + ByteArray.size (litV (↑(List.length l) : Int) 1) ≤ 9223372036854775807) && true)
            (brC (Nat.beq 335 335 && holds (ByteArray.size (litV b 1 ++ litV c 4 ++ litV (↑(List.length l) : Int) 1) ≤ 100000000))
              (brC (isSes (PV.sl (List.length l) (encSe l)) && Nat.beq 50 50 && Nat.beq 4096 4096 && Nat.beq 12288 12288 && Nat.beq 333 333 && Nat.beq 5 5 && isBy (PV.sl (ByteArray.size (litV b 1 ++ litV c 4 ++ litV (↑(List.length l) : Int) 1)) (bytesP (litV b 1 ++ litV c 4 ++ litV (↑(List.length l) : Int) 1))) && Nat.beq 0 0 && (↑(List.length l) : Int) == (↑(List.length (asSes (PV.sl (List.length l) (encSe l)))) : Int) && 0 == 0 && seatsB (asSes (PV.sl (List.length l) (encSe l))) && holds (ByteArray.size (asBy (PV.sl (ByteArray.size (litV b 1 ++ litV c 4 ++ litV (↑(List.length l) : Int) 1)) (bytesP (litV b 1 ++ litV c 4 ++ litV (↑(List.length l) : Int) 1)))) ≤ 10))
                (brC (decide (0 ≤ a) && decide (0 ≤ 4) && decide (4 ≤ 8))
                  (brC (Nat.beq 5 5 && isBy (PV.sl (ByteArray.size (seatsTxt (asBy (PV.sl (ByteArray.size (litV b 1 ++ litV c 4 ++ litV (↑(List.length l) : Int) 1)) (bytesP (litV b 1 ++ litV c 4 ++ litV (↑(List.length l) : Int) 1)))) (asSes (PV.sl (List.length l) (encSe l))))) (bytesP (seatsTxt (asBy (PV.sl (ByteArray.size (litV b 1 ++ litV c 4 ++ litV (↑(List.length l) : Int) 1)) (bytesP (litV b 1 ++ litV c 4 ++ litV (↑(List.length l) : Int) 1)))) (asSes (PV.sl (List.length l) (encSe l)))))) && Nat.ble 1 (ByteArray.size (seatsTxt (asBy (PV.sl (ByteArray.size (litV b 1 ++ litV c 4 ++ litV (↑(List.length l) : Int) 1)) (bytesP (litV b 1 ++ litV c 4 ++ litV (↑(List.length l) : Int) 1)))) (asSes (PV.sl (List.length l) (encSe l))))))
                    (brC (decide (0 ≤ 1700) && decide (1700 ≤ 100000) && holds (ByteArray.size (litV a 4) ≤ 1000000) && holds (ByteArray.size (asBy (PV.sl (ByteArray.size (seatsTxt (asBy (PV.sl (ByteArray.size (litV b 1 ++ litV c 4 ++ litV (↑(List.length l) : Int) 1)) (bytesP (litV b 1 ++ litV c 4 ++ litV (↑(List.length l) : Int) 1)))) (asSes (PV.sl (List.length l) (encSe l))))) (bytesP (seatsTxt (asBy (PV.sl (ByteArray.size (litV b 1 ++ litV c 4 ++ litV (↑(List.length l) : Int) 1)) (bytesP (litV b 1 ++ litV c 4 ++ litV (↑(List.length l) : Int) 1)))) (asSes (PV.sl (List.length l) (encSe l))))))) ≤ 1000000))
                      (brC (Nat.beq (List.length (asSes (PV.sl (List.length l) (encSe l)))) (List.length l))
                        (some ((IV.cv (CV.pv (PV.str (hidS (stV (litV a 4) (asBy (PV.sl (ByteArray.size (seatsTxt (asBy (PV.sl (ByteArray.size (litV b 1 ++ litV c 4 ++ litV (↑(List.length l) : Int) 1)) (bytesP (litV b 1 ++ litV c 4 ++ litV (↑(List.length l) : Int) 1)))) (asSes (PV.sl (List.length l) (encSe l))))) (bytesP (seatsTxt (asBy (PV.sl (ByteArray.size (litV b 1 ++ litV c 4 ++ litV (↑(List.length l) : Int) 1)) (bytesP (litV b 1 ++ litV c 4 ++ litV (↑(List.length l) : Int) 1)))) (asSes (PV.sl (List.length l) (encSe l))))))) 1700)))), [[CV.lst 2 50 (List.length l) (encSe (asSes (PV.sl (List.length l) (encSe l)))) true]])))
                        (none))
                      (none))
                    (none))
                  (none))
                (none))
              (none))
            (none))
          (none))
        (none))
      (none)))
  (none) := by kernel_rfl
theorem q_countS_eq (n : Nat) (l : List PV) : q_countS brC n l =
 some ((IV.cv (CV.pv (PV.int IntKind.i64 (↑n : Int))), [])) := by kernel_rfl
end Go.Proofs.Ytdegegajoccdjaa
