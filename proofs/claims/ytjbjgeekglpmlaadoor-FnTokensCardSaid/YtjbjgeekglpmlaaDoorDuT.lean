/- Trees (printed by vx/trees.sh; numbers of one seat). -/
import Derived.Test.YtjbjgeekglpmlaaDoorDuD
namespace Go.Proofs.YtjbjgeekglpmlaaDoor
set_option linter.unusedVariables false
set_option maxRecDepth 100000
theorem q_tokI_eq (s : ByteArray) : q_tokI brC s =
 brC (decide ((↑(ByteArray.size s) : Int) > 120))
  (some ((IV.tup [IV.cv (CV.pv PV.nils), IV.cv (CV.pv (PV.int IntKind.i64 (Int.ofNat 4)))], [])))
  (brC (okI s 0 && decide (0 ≤ 0) && Nat.beq 0 0 && Nat.beq 16384 16384 && Nat.beq 31 31 && Prod.snd (Prod.snd (toksF 0 (SL s 0))))
    (brC (Nat.beq (List.length [PV.int IntKind.i64 6, PV.str { data := #[] }, PV.int IntKind.i64 (↑(Prod.fst (Prod.snd (toksF 0 (SL s 0)))) : Int)]) (1 * 3) && (decide (0 + cntF 0 (SL s 0) + 1 ≤ 140737488351232) && decide ((0 + cntF 0 (SL s 0) + 1) * 32 ≤ 140737488355328)))
      (some ((IV.tup [IV.cv (CV.lst 3 31 (0 + cntF 0 (SL s 0) + 1) ([] ++ Prod.fst (toksF 0 (SL s 0)) ++ [PV.int IntKind.i64 6, PV.str { data := #[] }, PV.int IntKind.i64 (↑(Prod.fst (Prod.snd (toksF 0 (SL s 0)))) : Int)]) false), IV.cv (CV.pv (PV.int IntKind.i64 (Int.ofNat 0)))], [])))
      (none))
    (brC (okI s 0 && decide (0 ≤ 0) && Nat.beq 0 0 && Nat.beq 16384 16384 && Nat.beq 31 31)
      (some ((IV.tup [IV.cv (CV.pv PV.nils), IV.cv (CV.pv (PV.int IntKind.i64 (Int.ofNat 6)))], [])))
      (none))) := by kernel_rfl
theorem r_tokI_eq (s : ByteArray) (n : Nat) (l : List PV) (i : Int) : r_tokI brC s n l i =
 brC (decide (i < (↑(ByteArray.size s) : Int)))
  (brC (okI s i && decide (i < (↑(ByteArray.size s) : Int)))
    (brC ((↑(tokN (SL s i)) : Int) == 0)
      (some (Sum.inr (Ex.ret, [(AV.pv PV.nils, none), (AV.pv (PV.int IntKind.i64 (Int.ofNat 6)), none), (AV.own 16384, some (Ob.lst 3 31 n l false)), (AV.pv (PV.int IntKind.i64 i), none)])))
      (brC (Nat.beq (List.length [PV.int IntKind.i64 (tokK (SL s i)), PV.str (bs (tokT (SL s i))), PV.int IntKind.i64 i]) (1 * 3) && (decide (n + 1 ≤ 140737488351232) && decide ((n + 1) * 32 ≤ 140737488355328)))
        (some (Sum.inl [(AV.pv (PV.str s), none), (AV.own 16384, some (Ob.lst 3 31 (n + 1) (l ++ [PV.int IntKind.i64 (tokK (SL s i)), PV.str (bs (tokT (SL s i))), PV.int IntKind.i64 i]) false)), (AV.pv (PV.int IntKind.i64 (IntKind.wrap IntKind.i64 (i + (↑(tokN (SL s i)) : Int)))), none)]))
        (none)))
    (none))
  (some (Sum.inr (Ex.exit 0, [(AV.bad, none), (AV.bad, none), (AV.own 16384, some (Ob.lst 3 31 n l false)), (AV.pv (PV.int IntKind.i64 i), none)]))) := by kernel_rfl
end Go.Proofs.YtjbjgeekglpmlaaDoor
