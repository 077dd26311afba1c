/- Trees (printed by vx/trees.sh; numbers of one seat). -/
import Derived.Test.YtjbjgeekglpmlaaHgD
namespace Go.Proofs.Ytjbjgeekglpmlaa
set_option linter.unusedVariables false
set_option maxRecDepth 100000
theorem q_EqP_eq (t : List PutT) (u : List PutT) : q_EqP brC t u =
 brC ((↑(List.length t) : Int) != (↑(List.length u) : Int))
  (some ((IV.cv (CV.pv (PV.bool false)), [])))
  (brC (isPs (pPs t) && isPs (pPs u) && (↑(List.length t) : Int) == (↑(List.length (asPs (pPs t))) : Int) && 0 == 0 && Nat.beq (List.length (asPs (pPs t))) (List.length (asPs (pPs u))) && !sameP (asPs (pPs t)) (asPs (pPs u)))
    (some ((IV.cv (CV.pv (PV.bool false)), [])))
    (brC (isPs (pPs t) && isPs (pPs u) && (↑(List.length t) : Int) == (↑(List.length (asPs (pPs t))) : Int) && 0 == 0 && Nat.beq (List.length (asPs (pPs t))) (List.length (asPs (pPs u))))
      (some ((IV.cv (CV.pv (PV.bool true)), [])))
      (none))) := by kernel_rfl
theorem q_EqS_eq (xs : List ByteArray) (ys : List ByteArray) : q_EqS brC xs ys =
 brC ((↑(List.length xs) : Int) != (↑(List.length ys) : Int))
  (some ((IV.cv (CV.pv (PV.bool false)), [])))
  (brC (isL (pL xs) && isL (pL ys) && (↑(List.length xs) : Int) == (↑(List.length (asL (pL xs))) : Int) && 0 == 0 && Nat.beq (List.length (asL (pL xs))) (List.length (asL (pL ys))) && !sameS (asL (pL xs)) (asL (pL ys)))
    (some ((IV.cv (CV.pv (PV.bool false)), [])))
    (brC (isL (pL xs) && isL (pL ys) && (↑(List.length xs) : Int) == (↑(List.length (asL (pL xs))) : Int) && 0 == 0 && Nat.beq (List.length (asL (pL xs))) (List.length (asL (pL ys))))
      (some ((IV.cv (CV.pv (PV.bool true)), [])))
      (none))) := by kernel_rfl
theorem q_Flush_eq (d : DskT) : q_Flush brC d =
 brC (isDk (PV.agg [PV.int IntKind.i64 (DskT.wide d), PV.sl (List.length (DskT.secs d)) (List.map PV.str (DskT.secs d)), PV.sl (List.length (DskT.puts d)) (encP (DskT.puts d))]))
  (brC (!dskB (asDk (PV.agg [PV.int IntKind.i64 (DskT.wide d), PV.sl (List.length (DskT.secs d)) (List.map PV.str (DskT.secs d)), PV.sl (List.length (DskT.puts d)) (encP (DskT.puts d))])))
    (some ((IV.agg [CV.pv (PV.int IntKind.i64 (Int.ofNat 0)), CV.pv PV.nils, CV.pv PV.nils], [])))
    (brC (isDk (PV.agg [PV.int IntKind.i64 (DskT.wide d), PV.sl (List.length (DskT.secs d)) (List.map PV.str (DskT.secs d)), PV.sl (List.length (DskT.puts d)) (encP (DskT.puts d))]) && decide (1 ≤ List.length (DskT.secs (asDk (PV.agg [PV.int IntKind.i64 (DskT.wide d), PV.sl (List.length (DskT.secs d)) (List.map PV.str (DskT.secs d)), PV.sl (List.length (DskT.puts d)) (encP (DskT.puts d))])))))
      (brC (isL (PV.sl (List.length (DskT.secs (asDk (PV.agg [PV.int IntKind.i64 (DskT.wide d), PV.sl (List.length (DskT.secs d)) (List.map PV.str (DskT.secs d)), PV.sl (List.length (DskT.puts d)) (encP (DskT.puts d))])))) (List.map PV.str (DskT.secs (asDk (PV.agg [PV.int IntKind.i64 (DskT.wide d), PV.sl (List.length (DskT.secs d)) (List.map PV.str (DskT.secs d)), PV.sl (List.length (DskT.puts d)) (encP (DskT.puts d))]))))) && isPs (pPs (DskT.puts (asDk (PV.agg [PV.int IntKind.i64 (DskT.wide d), PV.sl (List.length (DskT.secs d)) (List.map PV.str (DskT.secs d)), PV.sl (List.length (DskT.puts d)) (encP (DskT.puts d))])))) && Nat.beq 9 9 && inS (List.length (DskT.secs (asDk (PV.agg [PV.int IntKind.i64 (DskT.wide d), PV.sl (List.length (DskT.secs d)) (List.map PV.str (DskT.secs d)), PV.sl (List.length (DskT.puts d)) (encP (DskT.puts d))])))) (asPs (pPs (DskT.puts (asDk (PV.agg [PV.int IntKind.i64 (DskT.wide d), PV.sl (List.length (DskT.secs d)) (List.map PV.str (DskT.secs d)), PV.sl (List.length (DskT.puts d)) (encP (DskT.puts d))]))))))
        (some ((IV.agg [CV.pv (PV.int IntKind.i64 (DskT.wide (asDk (PV.agg [PV.int IntKind.i64 (DskT.wide d), PV.sl (List.length (DskT.secs d)) (List.map PV.str (DskT.secs d)), PV.sl (List.length (DskT.puts d)) (encP (DskT.puts d))])))), CV.lst 1 9 (List.length (DskT.secs (asDk (PV.agg [PV.int IntKind.i64 (DskT.wide d), PV.sl (List.length (DskT.secs d)) (List.map PV.str (DskT.secs d)), PV.sl (List.length (DskT.puts d)) (encP (DskT.puts d))])))) (List.map PV.str (flushS (asPs (pPs (DskT.puts (asDk (PV.agg [PV.int IntKind.i64 (DskT.wide d), PV.sl (List.length (DskT.secs d)) (List.map PV.str (DskT.secs d)), PV.sl (List.length (DskT.puts d)) (encP (DskT.puts d))]))))) (asL (PV.sl (List.length (DskT.secs (asDk (PV.agg [PV.int IntKind.i64 (DskT.wide d), PV.sl (List.length (DskT.secs d)) (List.map PV.str (DskT.secs d)), PV.sl (List.length (DskT.puts d)) (encP (DskT.puts d))])))) (List.map PV.str (DskT.secs (asDk (PV.agg [PV.int IntKind.i64 (DskT.wide d), PV.sl (List.length (DskT.secs d)) (List.map PV.str (DskT.secs d)), PV.sl (List.length (DskT.puts d)) (encP (DskT.puts d))])))))))) true, CV.pv PV.nils], [])))
        (none))
      (none)))
  (none) := by kernel_rfl
theorem q_Same_eq (a : DskT) (b : DskT) : q_Same brC a b =
 brC (DskT.wide a == DskT.wide b)
  (brC (isL (PV.sl (List.length (DskT.secs a)) (List.map PV.str (DskT.secs a))) && isL (PV.sl (List.length (DskT.secs b)) (List.map PV.str (DskT.secs b))))
    (brC (sameS (asL (PV.sl (List.length (DskT.secs a)) (List.map PV.str (DskT.secs a)))) (asL (PV.sl (List.length (DskT.secs b)) (List.map PV.str (DskT.secs b)))))
      (brC (isPs (PV.sl (List.length (DskT.puts a)) (encP (DskT.puts a))) && isPs (PV.sl (List.length (DskT.puts b)) (encP (DskT.puts b))))
        (some ((IV.cv (CV.pv (PV.bool (sameP (asPs (PV.sl (List.length (DskT.puts a)) (encP (DskT.puts a)))) (asPs (PV.sl (List.length (DskT.puts b)) (encP (DskT.puts b))))))), [])))
        (none))
      (some ((IV.cv (CV.pv (PV.bool false)), []))))
    (none))
  (some ((IV.cv (CV.pv (PV.bool false)), []))) := by kernel_rfl
theorem q_cpy_eq (d : DskT) : q_cpy brC d =
 brC (isL (PV.sl (List.length (DskT.secs d)) (List.map PV.str (DskT.secs d))) && decide (1 ≤ List.length (asL (PV.sl (List.length (DskT.secs d)) (List.map PV.str (DskT.secs d))))))
  (brC (isPs (PV.sl (List.length (DskT.puts d)) (encP (DskT.puts d))))
    (some ((IV.agg [CV.pv (PV.int IntKind.i64 (DskT.wide d)), CV.lst 1 9 (List.length (asL (PV.sl (List.length (DskT.secs d)) (List.map PV.str (DskT.secs d))))) (List.map PV.str (asL (PV.sl (List.length (DskT.secs d)) (List.map PV.str (DskT.secs d))))) true, CV.pv (PV.sl (List.length (asPs (PV.sl (List.length (DskT.puts d)) (encP (DskT.puts d))))) (encP (asPs (PV.sl (List.length (DskT.puts d)) (encP (DskT.puts d))))))], [])))
    (none))
  (none) := by kernel_rfl
theorem q_fl_eq (w : PV) (ss : List ByteArray) (t : List PutT) : q_fl brC w ss t =
 brC (isL (PV.sl (List.length ss) (List.map PV.str ss)) && isPs (pPs t) && Nat.beq 9 9 && (↑(List.length t) : Int) == (↑(List.length (asPs (pPs t))) : Int) && 0 == 0 && inS (List.length ss) (asPs (pPs t)))
  (some ((IV.tup [], [[CV.pv w, CV.lst 1 9 (List.length ss) (List.map PV.str (flushS (asPs (pPs t)) (asL (PV.sl (List.length ss) (List.map PV.str ss))))) true, CV.pv PV.nils]])))
  (none) := by kernel_rfl
theorem q_CloS_eq (x : ByteArray) (t : List ByteArray) : q_CloS brC x t =
 brC (Nat.beq (List.length (PV.str x :: List.map PV.str t)) ((List.length t + 1) * 1) && (decide (0 + (List.length t + 1) ≤ 140737488351232) && decide ((0 + (List.length t + 1)) * 16 ≤ 140737488355328)))
  (some ((IV.cv (CV.lst 1 9 (0 + (List.length t + 1)) (PV.str x :: List.map PV.str t) true), [])))
  (none) := by kernel_rfl
theorem r_fl_eq (w : PV) (ss : List ByteArray) (q : PV) (t : List PutT) (i : Int) : r_fl brC w ss q t i =
 brC (decide (i < (↑(List.length t) : Int)))
  (brC (decide (0 ≤ i) && decide (i < (↑(List.length t) : Int)))
    (brC (Nat.ble 2 (List.length (List.drop (Int.toNat i * 2) (encP t))) && (PV.isInt IntKind.i64 (List.headD (List.drop (Int.toNat i * 2) (encP t)) PV.nilp) && (PV.isStr (List.headD (List.tail (List.drop (Int.toNat i * 2) (encP t))) PV.nilp) && true && true) && true) && true)
      (brC (decide (0 ≤ PV.asInt (List.headD (List.drop (Int.toNat i * 2) (encP t)) PV.nilp)) && decide (PV.asInt (List.headD (List.drop (Int.toNat i * 2) (encP t)) PV.nilp) < (↑(List.length ss) : Int)))
        (brC (Nat.beq (List.length [PV.str (PV.asStr (List.headD (List.tail (List.drop (Int.toNat i * 2) (encP t))) PV.nilp))]) 1 && Nat.ble (Int.toNat (PV.asInt (List.headD (List.drop (Int.toNat i * 2) (encP t)) PV.nilp)) * 1 + 1) (List.length (List.map PV.str ss)))
          (some (Sum.inl [(AV.ptr 0 0, some (Ob.box [CV.pv w, CV.lst 1 9 (List.length ss) (List.take (Int.toNat (PV.asInt (List.headD (List.drop (Int.toNat i * 2) (encP t)) PV.nilp)) * 1) (List.map PV.str ss) ++ [PV.str (PV.asStr (List.headD (List.tail (List.drop (Int.toNat i * 2) (encP t))) PV.nilp))] ++ List.drop (Int.toNat (PV.asInt (List.headD (List.drop (Int.toNat i * 2) (encP t)) PV.nilp)) * 1 + 1) (List.map PV.str ss)) true, CV.pv q])), (AV.pv (PV.sl (List.length t) (encP t)), none), (AV.pv (PV.int IntKind.i64 (↑(List.length t) : Int)), none), (AV.pv (PV.int IntKind.i64 (IntKind.wrap IntKind.i64 (i + 1))), none)]))
          (none))
        (none))
      (none))
    (none))
  (some (Sum.inr (Ex.exit 0, [(AV.ptr 0 0, some (Ob.box [CV.pv w, CV.lst 1 9 (List.length ss) (List.map PV.str ss) true, CV.pv q]))]))) := by kernel_rfl
theorem r_EqP_eq (t : List PutT) (u : List PutT) (i : Int) : r_EqP brC t u i =
 brC (decide (i < (↑(List.length t) : Int)))
  (brC (decide (0 ≤ i) && decide (i < (↑(List.length t) : Int)))
    (brC (Nat.ble 2 (List.length (List.drop (Int.toNat i * 2) (encP t))) && (PV.isInt IntKind.i64 (List.headD (List.drop (Int.toNat i * 2) (encP t)) PV.nilp) && (PV.isStr (List.headD (List.tail (List.drop (Int.toNat i * 2) (encP t))) PV.nilp) && true && true) && true) && true)
      (brC (decide (0 ≤ i) && decide (i < (↑(List.length u) : Int)))
        (brC (Nat.ble 2 (List.length (List.drop (Int.toNat i * 2) (encP u))) && (PV.isInt IntKind.i64 (List.headD (List.drop (Int.toNat i * 2) (encP u)) PV.nilp) && (PV.isStr (List.headD (List.tail (List.drop (Int.toNat i * 2) (encP u))) PV.nilp) && true && true) && true) && true)
          (brC (!(PV.asInt (List.headD (List.drop (Int.toNat i * 2) (encP t)) PV.nilp) == PV.asInt (List.headD (List.drop (Int.toNat i * 2) (encP u)) PV.nilp) && (ByteArray.toList (PV.asStr (List.headD (List.tail (List.drop (Int.toNat i * 2) (encP t))) PV.nilp)) == ByteArray.toList (PV.asStr (List.headD (List.tail (List.drop (Int.toNat i * 2) (encP u))) PV.nilp)) && true)))
            (some (Sum.inr (Ex.ret, [(AV.pv (PV.bool false), none)])))
            (some (Sum.inl [(AV.pv (PV.sl (List.length t) (encP t)), none), (AV.pv (PV.sl (List.length u) (encP u)), none), (AV.pv (PV.int IntKind.i64 (↑(List.length t) : Int)), none), (AV.pv (PV.int IntKind.i64 (IntKind.wrap IntKind.i64 (i + 1))), none)])))
          (none))
        (none))
      (none))
    (none))
  (some (Sum.inr (Ex.exit 0, [(AV.bad, none)]))) := by kernel_rfl
theorem q_CloP_eq (x : PutT) (t : List PutT) : q_CloP brC x t =
 brC (Nat.beq (List.length (PV.int IntKind.i64 (PutT.at_ x) :: PV.str (PutT.byt x) :: encP t)) ((List.length t + 1) * 2) && (decide (0 + (List.length t + 1) ≤ 140737488351232) && decide ((0 + (List.length t + 1)) * 24 ≤ 140737488355328)))
  (some ((IV.cv (CV.lst 2 47 (0 + (List.length t + 1)) (PV.int IntKind.i64 (PutT.at_ x) :: PV.str (PutT.byt x) :: encP t) false), [])))
  (none) := by kernel_rfl
theorem r_EqS_eq (xs : List ByteArray) (ys : List ByteArray) (i : Int) : r_EqS brC xs ys i =
 brC (decide (i < (↑(List.length xs) : Int)))
  (brC (decide (0 ≤ i) && decide (i < (↑(List.length xs) : Int)))
    (brC (Nat.blt 0 (List.length (List.drop (Int.toNat i * 1) (List.map PV.str xs))) && PV.isStr (List.headD (List.drop (Int.toNat i * 1) (List.map PV.str xs)) PV.nilp) && true)
      (brC (decide (0 ≤ i) && decide (i < (↑(List.length ys) : Int)))
        (brC (Nat.blt 0 (List.length (List.drop (Int.toNat i * 1) (List.map PV.str ys))) && PV.isStr (List.headD (List.drop (Int.toNat i * 1) (List.map PV.str ys)) PV.nilp) && true)
          (brC (!ByteArray.toList (PV.asStr (List.headD (List.drop (Int.toNat i * 1) (List.map PV.str xs)) PV.nilp)) == ByteArray.toList (PV.asStr (List.headD (List.drop (Int.toNat i * 1) (List.map PV.str ys)) PV.nilp)))
            (some (Sum.inr (Ex.ret, [(AV.pv (PV.bool false), none)])))
            (some (Sum.inl [(AV.pv (PV.sl (List.length xs) (List.map PV.str xs)), none), (AV.pv (PV.sl (List.length ys) (List.map PV.str ys)), none), (AV.pv (PV.int IntKind.i64 (↑(List.length xs) : Int)), none), (AV.pv (PV.int IntKind.i64 (IntKind.wrap IntKind.i64 (i + 1))), none)])))
          (none))
        (none))
      (none))
    (none))
  (some (Sum.inr (Ex.exit 0, [(AV.bad, none)]))) := by kernel_rfl
end Go.Proofs.Ytjbjgeekglpmlaa
