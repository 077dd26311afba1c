/- Trees (printed by vx/trees.sh; numbers of one seat). -/
import Derived.Test.YtjbjgeekglpmlaaHfD
namespace Go.Proofs.Ytjbjgeekglpmlaa
set_option linter.unusedVariables false
set_option maxRecDepth 100000
theorem q_ConS_eq (d : DskT) (xs : List ByteArray) : q_ConS brC d xs =
 brC (isL (PV.sl (List.length xs) (List.map PV.str xs)) && Nat.beq 68 68 && isDk (PV.agg [PV.int IntKind.i64 (DskT.wide d), pL (DskT.secs d), pPs (DskT.puts d)]))
  (some ((IV.cv (CV.pv (PV.bool (decide ((if fiW (badSz (DskT.wide d)) (asL (PV.sl (List.length xs) (List.map PV.str xs))) < List.length (asL (PV.sl (List.length xs) (List.map PV.str xs))) then (↑(fiW (badSz (DskT.wide d)) (asL (PV.sl (List.length xs) (List.map PV.str xs)))) : Int) else -1) ≥ 0)))), [])))
  (none) := by kernel_rfl
theorem r_IdxS_eq (d : DskT) (xs : List ByteArray) (i : Int) : r_IdxS brC d xs i =
 brC (decide (i < (↑(List.length xs) : Int)))
  (brC (decide (0 ≤ i) && decide (i < (↑(List.length xs) : Int)))
    (brC (Nat.blt 0 (List.length (List.drop (Int.toNat i * 1) (List.map PV.str xs))) && PV.isStr (List.headD (List.drop (Int.toNat i * 1) (List.map PV.str xs)) PV.nilp) && true)
      (brC (isDk (PV.agg [PV.int IntKind.i64 (DskT.wide d), pL (DskT.secs d), pPs (DskT.puts d)]) && decide (ByteArray.size (PV.asStr (List.headD (List.drop (Int.toNat i * 1) (List.map PV.str xs)) PV.nilp)) ≤ 1000000))
        (brC (!decide ((↑(ByteArray.size (PV.asStr (List.headD (List.drop (Int.toNat i * 1) (List.map PV.str xs)) PV.nilp))) : Int) = DskT.wide d))
          (some (Sum.inr (Ex.ret, [(AV.pv (PV.int IntKind.i64 i), none)])))
          (some (Sum.inl [(AV.pv (PV.sl (List.length xs) (List.map PV.str xs)), none), (AV.pv (PV.clo 68 [PV.ref [PV.int IntKind.i64 (DskT.wide d), PV.sl (List.length (DskT.secs d)) (List.map PV.str (DskT.secs d)), PV.sl (List.length (DskT.puts d)) (encP (DskT.puts d))]]), none), (AV.pv (PV.int IntKind.i64 (↑(List.length xs) : Int)), none), (AV.pv (PV.int IntKind.i64 (IntKind.wrap IntKind.i64 (i + 1))), none)])))
        (none))
      (none))
    (none))
  (some (Sum.inr (Ex.exit 0, [(AV.bad, none)]))) := by kernel_rfl
theorem q_within2_eq (n : Int) (a : Int) (b : Int) : q_within2 brC n a b =
 brC (decide (a ≤ n))
  (some ((IV.cv (CV.pv (PV.bool (decide (n ≤ b)))), [])))
  (some ((IV.cv (CV.pv (PV.bool false)), []))) := by kernel_rfl
theorem q_clo2_eq (x : PutT) (d : DskT) : q_clo2 brC x d =
 brC (isDk (PV.agg [PV.int IntKind.i64 (PV.asInt (List.headD [PV.int IntKind.i64 (DskT.wide d), pL (DskT.secs d), pPs (DskT.puts d)] PV.nilp)), PV.sl (PV.slN (List.headD [pL (DskT.secs d), pPs (DskT.puts d)] PV.nilp)) (PV.slL (List.headD [pL (DskT.secs d), pPs (DskT.puts d)] PV.nilp)), PV.sl (PV.slN (List.headD [pPs (DskT.puts d)] PV.nilp)) (PV.slL (List.headD [pPs (DskT.puts d)] PV.nilp))]))
  (brC (!(decide (0 ≤ PutT.at_ x) && decide (PutT.at_ x ≤ (↑(List.length (DskT.secs (asDk (PV.agg [PV.int IntKind.i64 (PV.asInt (List.headD [PV.int IntKind.i64 (DskT.wide d), pL (DskT.secs d), pPs (DskT.puts d)] PV.nilp)), PV.sl (PV.slN (List.headD [pL (DskT.secs d), pPs (DskT.puts d)] PV.nilp)) (PV.slL (List.headD [pL (DskT.secs d), pPs (DskT.puts d)] PV.nilp)), PV.sl (PV.slN (List.headD [pPs (DskT.puts d)] PV.nilp)) (PV.slL (List.headD [pPs (DskT.puts d)] PV.nilp))])))) : Int) - 1)))
    (some ((IV.cv (CV.pv (PV.bool true)), [])))
    (some ((IV.cv (CV.pv (PV.bool ((↑(ByteArray.size (PutT.byt x)) : Int) != PV.asInt (List.headD [PV.int IntKind.i64 (DskT.wide d), pL (DskT.secs d), pPs (DskT.puts d)] PV.nilp)))), []))))
  (none) := by kernel_rfl
theorem r_SDk10_eq (d : DskT) (m : Int) (i : Int) : r_SDk10 brC d m i =
 brC (decide (i < (↑(List.length (DskT.puts d)) : Int)))
  (brC (decide (0 ≤ i) && decide (i < (↑(List.length (DskT.puts d)) : Int)))
    (brC (Nat.blt 0 (List.length (List.drop 0 (List.drop (Int.toNat i * 2) (encP (DskT.puts d))))) && PV.isInt IntKind.i64 (List.headD (List.drop 0 (List.drop (Int.toNat i * 2) (encP (DskT.puts d)))) PV.nilp) && true)
      (brC (!(decide (0 ≤ PV.asInt (List.headD (List.drop 0 (List.drop (Int.toNat i * 2) (encP (DskT.puts d)))) PV.nilp)) && decide (PV.asInt (List.headD (List.drop 0 (List.drop (Int.toNat i * 2) (encP (DskT.puts d)))) PV.nilp) ≤ IntKind.wrap IntKind.i64 (m - 1))))
        (some (Sum.inr (Ex.ret, [(AV.pv (PV.bool false), none)])))
        (brC (decide (0 ≤ i) && decide (i < (↑(List.length (DskT.puts d)) : Int)))
          (brC (Nat.blt 0 (List.length (List.drop 1 (List.drop (Int.toNat i * 2) (encP (DskT.puts d))))) && PV.isStr (List.headD (List.drop 1 (List.drop (Int.toNat i * 2) (encP (DskT.puts d)))) PV.nilp) && true)
            (brC ((↑(ByteArray.size (PV.asStr (List.headD (List.drop 1 (List.drop (Int.toNat i * 2) (encP (DskT.puts d)))) PV.nilp))) : Int) != DskT.wide d)
              (some (Sum.inr (Ex.ret, [(AV.pv (PV.bool false), none)])))
              (some (Sum.inl [(AV.ptr 4096 0, some (Ob.box [CV.pv (PV.int IntKind.i64 (DskT.wide d)), CV.pv (PV.sl (List.length (DskT.secs d)) (List.map PV.str (DskT.secs d))), CV.pv (PV.sl (List.length (DskT.puts d)) (encP (DskT.puts d)))])), (AV.pv (PV.int IntKind.i64 m), none), (AV.pv (PV.int IntKind.i64 (IntKind.wrap IntKind.i64 (i + 1))), none)])))
            (none))
          (none)))
      (none))
    (none))
  (some (Sum.inr (Ex.exit 2, [(AV.bad, none)]))) := by kernel_rfl
theorem r_ris_eq (xs : List Int) (i : Int) : r_ris brC xs i =
 brC (decide (i < (↑(List.length xs) : Int)))
  (brC (decide (0 ≤ IntKind.wrap IntKind.i64 (i - 1)) && decide (IntKind.wrap IntKind.i64 (i - 1) < (↑(List.length xs) : Int)))
    (brC (Nat.blt 0 (List.length (List.drop (Int.toNat (IntKind.wrap IntKind.i64 (i - 1)) * 1) (List.map (PV.int IntKind.i64) xs))) && PV.isInt IntKind.i64 (List.headD (List.drop (Int.toNat (IntKind.wrap IntKind.i64 (i - 1)) * 1) (List.map (PV.int IntKind.i64) xs)) PV.nilp) && true)
      (brC (decide (0 ≤ i) && decide (i < (↑(List.length xs) : Int)))
        (brC (Nat.blt 0 (List.length (List.drop (Int.toNat i * 1) (List.map (PV.int IntKind.i64) xs))) && PV.isInt IntKind.i64 (List.headD (List.drop (Int.toNat i * 1) (List.map (PV.int IntKind.i64) xs)) PV.nilp) && true)
          (brC (decide (PV.asInt (List.headD (List.drop (Int.toNat (IntKind.wrap IntKind.i64 (i - 1)) * 1) (List.map (PV.int IntKind.i64) xs)) PV.nilp) ≥ PV.asInt (List.headD (List.drop (Int.toNat i * 1) (List.map (PV.int IntKind.i64) xs)) PV.nilp)))
            (some (Sum.inr (Ex.ret, [(AV.pv (PV.bool false), none)])))
            (some (Sum.inl [(AV.pv (PV.sl (List.length xs) (List.map (PV.int IntKind.i64) xs)), none), (AV.pv (PV.int IntKind.i64 (IntKind.wrap IntKind.i64 (i + 1))), none)])))
          (none))
        (none))
      (none))
    (none))
  (some (Sum.inr (Ex.exit 0, [(AV.bad, none)]))) := by kernel_rfl
theorem q_has_eq (d : DskT) (a : Int) : q_has brC d a =
 some ((IV.cv (CV.pv (PV.bool (decide (0 ≤ a) && decide (a ≤ IntKind.wrap IntKind.i64 ((↑(List.length (DskT.secs d)) : Int) - 1))))), [])) := by kernel_rfl
theorem q_clo1_eq (s : ByteArray) (d : DskT) : q_clo1 brC s d =
 some ((IV.cv (CV.pv (PV.bool ((↑(ByteArray.size s) : Int) != PV.asInt (List.headD [PV.int IntKind.i64 (DskT.wide d), pL (DskT.secs d), pPs (DskT.puts d)] PV.nilp)))), [])) := by kernel_rfl
theorem r_IdxP_eq (d : DskT) (xs : List PutT) (i : Int) : r_IdxP brC d xs i =
 brC (decide (i < (↑(List.length xs) : Int)))
  (brC (decide (0 ≤ i) && decide (i < (↑(List.length xs) : Int)))
    (brC (Nat.ble 2 (List.length (List.drop (Int.toNat i * 2) (encP xs))) && (PV.isInt IntKind.i64 (List.headD (List.drop (Int.toNat i * 2) (encP xs)) PV.nilp) && (PV.isStr (List.headD (List.tail (List.drop (Int.toNat i * 2) (encP xs))) PV.nilp) && true && true) && true) && true)
      (brC (isDk (PV.agg [PV.int IntKind.i64 (DskT.wide d), pL (DskT.secs d), pPs (DskT.puts d)]) && isP (PV.agg [PV.int IntKind.i64 (PV.asInt (List.headD (List.drop (Int.toNat i * 2) (encP xs)) PV.nilp)), PV.str (PV.asStr (List.headD (List.tail (List.drop (Int.toNat i * 2) (encP xs))) PV.nilp))]))
        (brC (!okPut (List.length (DskT.secs (asDk (PV.agg [PV.int IntKind.i64 (DskT.wide d), pL (DskT.secs d), pPs (DskT.puts d)])))) (DskT.wide d) (asP (PV.agg [PV.int IntKind.i64 (PV.asInt (List.headD (List.drop (Int.toNat i * 2) (encP xs)) PV.nilp)), PV.str (PV.asStr (List.headD (List.tail (List.drop (Int.toNat i * 2) (encP xs))) PV.nilp))])))
          (some (Sum.inr (Ex.ret, [(AV.pv (PV.int IntKind.i64 i), none)])))
          (some (Sum.inl [(AV.pv (PV.sl (List.length xs) (encP xs)), none), (AV.pv (PV.clo 70 [PV.ref [PV.int IntKind.i64 (DskT.wide d), PV.sl (List.length (DskT.secs d)) (List.map PV.str (DskT.secs d)), PV.sl (List.length (DskT.puts d)) (encP (DskT.puts d))]]), none), (AV.pv (PV.int IntKind.i64 (↑(List.length xs) : Int)), none), (AV.pv (PV.int IntKind.i64 (IntKind.wrap IntKind.i64 (i + 1))), none)])))
        (none))
      (none))
    (none))
  (some (Sum.inr (Ex.exit 0, [(AV.bad, none)]))) := by kernel_rfl
theorem q_ConI_eq (lo : Int) (hh : Int) (xs : List Int) : q_ConI brC lo hh xs =
 brC (isI (PV.sl (List.length xs) (List.map (PV.int IntKind.i64) xs)) && Nat.beq 74 74 && true)
  (some ((IV.cv (CV.pv (PV.bool (decide ((if fiW (badIn lo hh) (asI (PV.sl (List.length xs) (List.map (PV.int IntKind.i64) xs))) < List.length (asI (PV.sl (List.length xs) (List.map (PV.int IntKind.i64) xs))) then (↑(fiW (badIn lo hh) (asI (PV.sl (List.length xs) (List.map (PV.int IntKind.i64) xs)))) : Int) else -1) ≥ 0)))), [])))
  (none) := by kernel_rfl
theorem q_countP_eq (n : Nat) (l : List PV) : q_countP brC n l =
 some ((IV.cv (CV.pv (PV.int IntKind.i64 (↑n : Int))), [])) := by kernel_rfl
theorem q_IdxI_eq (lo : Int) (hh : Int) (xs : List Int) : q_IdxI brC lo hh xs =
 brC (isI (pI xs) && Nat.beq 74 74 && true && (↑(List.length xs) : Int) == (↑(List.length (asI (pI xs))) : Int) && 0 == 0 && decide (fiW (badIn lo hh) (asI (pI xs)) < List.length (asI (pI xs))))
  (some ((IV.cv (CV.pv (PV.int IntKind.i64 (↑(fiW (badIn lo hh) (asI (pI xs))) : Int))), [])))
  (brC (isI (pI xs) && Nat.beq 74 74 && true && (↑(List.length xs) : Int) == (↑(List.length (asI (pI xs))) : Int) && 0 == 0)
    (some ((IV.cv (CV.pv (PV.int IntKind.i64 (Int.negSucc 0))), [])))
    (none)) := by kernel_rfl
theorem r_SDk5_eq (d : DskT) (m : Int) (i : Int) : r_SDk5 brC d m i =
 brC (decide (i < (↑(List.length (DskT.secs d)) : Int)))
  (brC (decide (0 ≤ i) && decide (i < (↑(List.length (DskT.secs d)) : Int)))
    (brC (Nat.blt 0 (List.length (List.drop (Int.toNat i * 1) (List.map PV.str (DskT.secs d)))) && PV.isStr (List.headD (List.drop (Int.toNat i * 1) (List.map PV.str (DskT.secs d))) PV.nilp) && true)
      (brC ((↑(ByteArray.size (PV.asStr (List.headD (List.drop (Int.toNat i * 1) (List.map PV.str (DskT.secs d))) PV.nilp))) : Int) != DskT.wide d)
        (some (Sum.inr (Ex.ret, [(AV.ptr 4096 0, some (Ob.box [CV.pv (PV.int IntKind.i64 (DskT.wide d)), CV.pv (PV.sl (List.length (DskT.secs d)) (List.map PV.str (DskT.secs d))), CV.pv (PV.sl (List.length (DskT.puts d)) (encP (DskT.puts d)))])), (AV.pv (PV.bool false), none), (AV.pv (PV.int IntKind.i64 m), none)])))
        (some (Sum.inl [(AV.ptr 4096 0, some (Ob.box [CV.pv (PV.int IntKind.i64 (DskT.wide d)), CV.pv (PV.sl (List.length (DskT.secs d)) (List.map PV.str (DskT.secs d))), CV.pv (PV.sl (List.length (DskT.puts d)) (encP (DskT.puts d)))])), (AV.pv (PV.int IntKind.i64 m), none), (AV.pv (PV.int IntKind.i64 (IntKind.wrap IntKind.i64 (i + 1))), none)])))
      (none))
    (none))
  (some (Sum.inr (Ex.exit 0, [(AV.ptr 4096 0, some (Ob.box [CV.pv (PV.int IntKind.i64 (DskT.wide d)), CV.pv (PV.sl (List.length (DskT.secs d)) (List.map PV.str (DskT.secs d))), CV.pv (PV.sl (List.length (DskT.puts d)) (encP (DskT.puts d)))])), (AV.bad, none), (AV.pv (PV.int IntKind.i64 m), none)]))) := by kernel_rfl
theorem q_IdxS_eq (d : DskT) (xs : List ByteArray) : q_IdxS brC d xs =
 brC (isL (pL xs) && Nat.beq 68 68 && isDk (PV.agg [PV.int IntKind.i64 (DskT.wide d), pL (DskT.secs d), pPs (DskT.puts d)]) && (↑(List.length xs) : Int) == (↑(List.length (asL (pL xs))) : Int) && 0 == 0 && decide (fiW (badSz (DskT.wide d)) (asL (pL xs)) < List.length (asL (pL xs))))
  (some ((IV.cv (CV.pv (PV.int IntKind.i64 (↑(fiW (badSz (DskT.wide d)) (asL (pL xs))) : Int))), [])))
  (brC (isL (pL xs) && Nat.beq 68 68 && isDk (PV.agg [PV.int IntKind.i64 (DskT.wide d), pL (DskT.secs d), pPs (DskT.puts d)]) && (↑(List.length xs) : Int) == (↑(List.length (asL (pL xs))) : Int) && 0 == 0)
    (some ((IV.cv (CV.pv (PV.int IntKind.i64 (Int.negSucc 0))), [])))
    (none)) := by kernel_rfl
theorem q_cloI_eq (n : Int) (lo : Int) (hi : Int) : q_cloI brC n lo hi =
 some ((IV.cv (CV.pv (PV.bool !(decide (PV.asInt (List.headD [PV.int IntKind.i64 lo] PV.nilp) ≤ n) && decide (n ≤ PV.asInt (List.headD [PV.int IntKind.i64 hi] PV.nilp))))), [])) := by kernel_rfl
theorem q_SDk_eq (d : DskT) : q_SDk brC d =
 brC (!(decide (1 ≤ DskT.wide d) && decide (DskT.wide d ≤ 2000)))
  (some ((IV.cv (CV.pv (PV.bool false)), [])))
  (brC (decide ((↑(List.length (DskT.secs d)) : Int) < 1))
    (some ((IV.cv (CV.pv (PV.bool false)), [])))
    (brC (decide ((↑(List.length (DskT.secs d)) : Int) > 400))
      (some ((IV.cv (CV.pv (PV.bool false)), [])))
      (brC (decide ((↑(List.length (DskT.puts d)) : Int) > 400))
        (some ((IV.cv (CV.pv (PV.bool false)), [])))
        (brC (isDk (PV.agg [PV.int IntKind.i64 (DskT.wide d), pL (DskT.secs d), pPs (DskT.puts d)]) && Nat.beq 4096 4096 && 0 == 0 && !secOk (asDk (PV.agg [PV.int IntKind.i64 (DskT.wide d), pL (DskT.secs d), pPs (DskT.puts d)])))
          (some ((IV.cv (CV.pv (PV.bool false)), [])))
          (brC (isDk (PV.agg [PV.int IntKind.i64 (DskT.wide d), pL (DskT.secs d), pPs (DskT.puts d)]) && Nat.beq 4096 4096 && 0 == 0)
            (brC (isDk (PV.agg [PV.int IntKind.i64 (DskT.wide d), pL (DskT.secs d), pPs (DskT.puts d)]) && Nat.beq 4096 4096 && 0 == 0 && (↑(List.length (DskT.secs d)) : Int) == (↑(List.length (DskT.secs (asDk (PV.agg [PV.int IntKind.i64 (DskT.wide d), pL (DskT.secs d), pPs (DskT.puts d)])))) : Int) && !putOk (asDk (PV.agg [PV.int IntKind.i64 (DskT.wide d), pL (DskT.secs d), pPs (DskT.puts d)])))
              (some ((IV.cv (CV.pv (PV.bool false)), [])))
              (brC (isDk (PV.agg [PV.int IntKind.i64 (DskT.wide d), pL (DskT.secs d), pPs (DskT.puts d)]) && Nat.beq 4096 4096 && 0 == 0 && (↑(List.length (DskT.secs d)) : Int) == (↑(List.length (DskT.secs (asDk (PV.agg [PV.int IntKind.i64 (DskT.wide d), pL (DskT.secs d), pPs (DskT.puts d)])))) : Int))
                (some ((IV.cv (CV.pv (PV.bool true)), [])))
                (none)))
            (none)))))) := by kernel_rfl
theorem q_count2_eq (n : Nat) (l : List PV) : q_count2 brC n l =
 some ((IV.cv (CV.pv (PV.int IntKind.i64 (↑n : Int))), [])) := by kernel_rfl
theorem q_IDk_eq (d : DskT) : q_IDk brC d =
 brC (!(decide (1 ≤ DskT.wide d) && decide (DskT.wide d ≤ 2000)))
  (some ((IV.cv (CV.pv (PV.bool false)), [])))
  (brC (!(decide (1 ≤ (↑(List.length (DskT.secs d)) : Int)) && decide ((↑(List.length (DskT.secs d)) : Int) ≤ 400)))
    (some ((IV.cv (CV.pv (PV.bool false)), [])))
    (brC (decide ((↑(List.length (DskT.puts d)) : Int) > 400))
      (some ((IV.cv (CV.pv (PV.bool false)), [])))
      (brC (isL (PV.sl (List.length (DskT.secs d)) (List.map PV.str (DskT.secs d))) && Nat.beq 68 68 && isDk (PV.agg [PV.int IntKind.i64 (DskT.wide d), pL (DskT.secs d), pPs (DskT.puts d)]))
        (brC (List.any (asL (PV.sl (List.length (DskT.secs d)) (List.map PV.str (DskT.secs d)))) (badSz (DskT.wide d)))
          (some ((IV.cv (CV.pv (PV.bool false)), [])))
          (brC (isPs (PV.sl (List.length (DskT.puts d)) (encP (DskT.puts d))) && Nat.beq 70 70 && isDk (PV.agg [PV.int IntKind.i64 (DskT.wide d), pL (DskT.secs d), pPs (DskT.puts d)]))
            (some ((IV.cv (CV.pv (PV.bool !List.any (asPs (PV.sl (List.length (DskT.puts d)) (encP (DskT.puts d)))) (badPt (List.length (DskT.secs (asDk (PV.agg [PV.int IntKind.i64 (DskT.wide d), pL (DskT.secs d), pPs (DskT.puts d)])))) (DskT.wide d)))), [])))
            (none)))
        (none)))) := by kernel_rfl
theorem q_IdxP_eq (d : DskT) (xs : List PutT) : q_IdxP brC d xs =
 brC (isPs (pPs xs) && Nat.beq 70 70 && isDk (PV.agg [PV.int IntKind.i64 (DskT.wide d), pL (DskT.secs d), pPs (DskT.puts d)]) && (↑(List.length xs) : Int) == (↑(List.length (asPs (pPs xs))) : Int) && 0 == 0 && decide (fiW (badPt (List.length (DskT.secs (asDk (PV.agg [PV.int IntKind.i64 (DskT.wide d), pL (DskT.secs d), pPs (DskT.puts d)])))) (DskT.wide d)) (asPs (pPs xs)) < List.length (asPs (pPs xs))))
  (some ((IV.cv (CV.pv (PV.int IntKind.i64 (↑(fiW (badPt (List.length (DskT.secs (asDk (PV.agg [PV.int IntKind.i64 (DskT.wide d), pL (DskT.secs d), pPs (DskT.puts d)])))) (DskT.wide d)) (asPs (pPs xs))) : Int))), [])))
  (brC (isPs (pPs xs) && Nat.beq 70 70 && isDk (PV.agg [PV.int IntKind.i64 (DskT.wide d), pL (DskT.secs d), pPs (DskT.puts d)]) && (↑(List.length xs) : Int) == (↑(List.length (asPs (pPs xs))) : Int) && 0 == 0)
    (some ((IV.cv (CV.pv (PV.int IntKind.i64 (Int.negSucc 0))), [])))
    (none)) := by kernel_rfl
theorem r_IdxI_eq (lo : Int) (hh : Int) (xs : List Int) (i : Int) : r_IdxI brC lo hh xs i =
 brC (decide (i < (↑(List.length xs) : Int)))
  (brC (decide (0 ≤ i) && decide (i < (↑(List.length xs) : Int)))
    (brC (Nat.blt 0 (List.length (List.drop (Int.toNat i * 1) (List.map (PV.int IntKind.i64) xs))) && PV.isInt IntKind.i64 (List.headD (List.drop (Int.toNat i * 1) (List.map (PV.int IntKind.i64) xs)) PV.nilp) && true)
      (brC (badIn lo hh (PV.asInt (List.headD (List.drop (Int.toNat i * 1) (List.map (PV.int IntKind.i64) xs)) PV.nilp)))
        (some (Sum.inr (Ex.ret, [(AV.pv (PV.int IntKind.i64 i), none)])))
        (some (Sum.inl [(AV.pv (PV.sl (List.length xs) (List.map (PV.int IntKind.i64) xs)), none), (AV.pv (PV.clo 74 [PV.ref [PV.int IntKind.i64 lo], PV.ref [PV.int IntKind.i64 hh]]), none), (AV.pv (PV.int IntKind.i64 (↑(List.length xs) : Int)), none), (AV.pv (PV.int IntKind.i64 (IntKind.wrap IntKind.i64 (i + 1))), none)])))
      (none))
    (none))
  (some (Sum.inr (Ex.exit 0, [(AV.bad, none)]))) := by kernel_rfl
theorem q_allW_eq (xs : List Int) (lo : Int) (hi : Int) : q_allW brC xs lo hi =
 brC (isI (PV.sl (List.length xs) (List.map (PV.int IntKind.i64) xs)) && Nat.beq 74 74 && true)
  (some ((IV.cv (CV.pv (PV.bool !List.any (asI (PV.sl (List.length xs) (List.map (PV.int IntKind.i64) xs))) (badIn lo hi))), [])))
  (none) := by kernel_rfl
theorem q_ris_eq (xs : List Int) : q_ris brC xs =
 brC (isI (pI xs) && 1 == 1 && !risB (asI (pI xs)))
  (some ((IV.cv (CV.pv (PV.bool false)), [])))
  (brC (isI (pI xs) && 1 == 1)
    (some ((IV.cv (CV.pv (PV.bool true)), [])))
    (none)) := by kernel_rfl
theorem q_ConP_eq (d : DskT) (xs : List PutT) : q_ConP brC d xs =
 brC (isPs (PV.sl (List.length xs) (encP xs)) && Nat.beq 70 70 && isDk (PV.agg [PV.int IntKind.i64 (DskT.wide d), pL (DskT.secs d), pPs (DskT.puts d)]))
  (some ((IV.cv (CV.pv (PV.bool (decide ((if fiW (badPt (List.length (DskT.secs (asDk (PV.agg [PV.int IntKind.i64 (DskT.wide d), pL (DskT.secs d), pPs (DskT.puts d)])))) (DskT.wide d)) (asPs (PV.sl (List.length xs) (encP xs))) < List.length (asPs (PV.sl (List.length xs) (encP xs))) then (↑(fiW (badPt (List.length (DskT.secs (asDk (PV.agg [PV.int IntKind.i64 (DskT.wide d), pL (DskT.secs d), pPs (DskT.puts d)])))) (DskT.wide d)) (asPs (PV.sl (List.length xs) (encP xs)))) : Int) else -1) ≥ 0)))), [])))
  (none) := by kernel_rfl
end Go.Proofs.Ytjbjgeekglpmlaa
