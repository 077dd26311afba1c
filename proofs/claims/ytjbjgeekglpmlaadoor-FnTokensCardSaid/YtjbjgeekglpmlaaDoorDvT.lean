/- Trees (printed by vx/trees.sh; numbers of one seat). -/
import Derived.Test.YtjbjgeekglpmlaaDoorDvD
namespace Go.Proofs.YtjbjgeekglpmlaaDoor
set_option linter.unusedVariables false
set_option maxRecDepth 100000
theorem r_tokS_eq (s : ByteArray) (n : Nat) (l : List PV) (i : Int) : r_tokS brC s n l i =
 brC (okS s i)
  (brC (!lexO (SL s i))
    (some (Sum.inr (Ex.ret, [(AV.own 8192, some (Ob.lst 3 31 0 [] false)), (AV.pv (PV.int IntKind.i64 (Int.ofNat 6)), none)])))
    (brC (Nat.beq (List.length [PV.int IntKind.i64 (lexK (SL s i)), PV.str (bs (lexT (SL s i))), PV.int IntKind.i64 (lexP (SL s i) i)]) (1 * 3) && (decide (n + 1 ≤ 140737488351232) && decide ((n + 1) * 32 ≤ 140737488355328)))
      (brC (lexK (SL s i) == 6)
        (some (Sum.inr (Ex.ret, [(AV.own 8192, some (Ob.lst 3 31 (n + 1) (l ++ [PV.int IntKind.i64 (lexK (SL s i)), PV.str (bs (lexT (SL s i))), PV.int IntKind.i64 (lexP (SL s i) i)]) false)), (AV.pv (PV.int IntKind.i64 (Int.ofNat 0)), none)])))
        (some (Sum.inl [(AV.pv (PV.str s), none), (AV.own 16384, some (Ob.lst 3 31 (n + 1) (l ++ [PV.int IntKind.i64 (lexK (SL s i)), PV.str (bs (lexT (SL s i))), PV.int IntKind.i64 (lexP (SL s i) i)]) false)), (AV.pv (PV.int IntKind.i64 (lexE (SL s i) i)), none)])))
      (none)))
  (none) := by kernel_rfl
theorem q_tokS_eq (s : ByteArray) : q_tokS brC s =
 brC (decide ((↑(ByteArray.size s) : Int) > 120))
  (some ((IV.tup [IV.cv (CV.lst 3 31 0 [] false), IV.cv (CV.pv (PV.int IntKind.i64 (Int.ofNat 4)))], [])))
  (brC (okI s 0 && decide (0 ≤ 0) && Nat.beq 0 0 && Nat.beq 16384 16384 && Nat.beq 31 31 && Prod.snd (Prod.snd (toksF 0 (SL s 0))))
    (some ((IV.tup [IV.cv (CV.lst 3 31 (0 + cntF 0 (SL s 0) + 1) ([] ++ Prod.fst (toksF 0 (SL s 0)) ++ [PV.int IntKind.i64 6, PV.str { data := #[] }, PV.int IntKind.i64 (↑(Prod.fst (Prod.snd (toksF 0 (SL s 0)))) : Int)]) false), IV.cv (CV.pv (PV.int IntKind.i64 (Int.ofNat 0)))], [])))
    (brC (okI s 0 && decide (0 ≤ 0) && Nat.beq 0 0 && Nat.beq 16384 16384 && Nat.beq 31 31)
      (some ((IV.tup [IV.cv (CV.lst 3 31 0 [] false), IV.cv (CV.pv (PV.int IntKind.i64 (Int.ofNat 6)))], [])))
      (none))) := by kernel_rfl
end Go.Proofs.YtjbjgeekglpmlaaDoor
