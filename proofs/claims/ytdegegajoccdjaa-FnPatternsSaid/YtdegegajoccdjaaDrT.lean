/- Trees (printed by vx/trees.sh; numbers of one seat). -/
import Derived.Test.YtdegegajoccdjaaDrD
namespace Go.Proofs.Ytdegegajoccdjaa
set_option linter.unusedVariables false
set_option maxRecDepth 100000
theorem q_among_eq (n : Nat) (l : List PV) (a : Int) (g : Int) (nt : Nat) (t : List PV) : q_among brC n l a g nt t =
 brC (decide ((↑nt : Int) ≤ 1))
  (brC (decide (0 ≤ 0) && decide (0 < (↑nt : Int)))
    (brC (Nat.blt 0 (List.length (List.drop 0 t)) && PV.isInt IntKind.i64 (List.headD (List.drop 0 t) PV.nilp) && true)
      (some ((IV.cv (CV.pv (PV.int IntKind.i64 (PV.asInt (List.headD (List.drop 0 t) PV.nilp)))), [[CV.pv (PV.sl n l), CV.pv (PV.int IntKind.i64 a), CV.pv (PV.int IntKind.u64 g)]])))
      (none))
    (none))
  (brC (srcOk n l a g && decide ((↑nt : Int) ≤ 200))
    (brC (decide (0 ≤ pickV l (Int.toNat a) (↑nt : Int)) && decide (pickV l (Int.toNat a) (↑nt : Int) < (↑nt : Int)))
      (brC (Nat.blt 0 (List.length (List.drop (Int.toNat (pickV l (Int.toNat a) (↑nt : Int)) * 1) t)) && PV.isInt IntKind.i64 (List.headD (List.drop (Int.toNat (pickV l (Int.toNat a) (↑nt : Int)) * 1) t) PV.nilp) && true)
        (some ((IV.cv (CV.pv (PV.int IntKind.i64 (PV.asInt (List.headD (List.drop (Int.toNat (pickV l (Int.toNat a) (↑nt : Int)) * 1) t) PV.nilp)))), [[CV.pv (PV.sl n l), CV.pv (PV.int IntKind.i64 (a + 1)), CV.pv (PV.int IntKind.u64 (seedK l (Int.toNat a + 1)))]])))
        (none))
      (none))
    (none)) := by kernel_rfl
theorem q_text_eq (n : Nat) (l : List PV) (a : Int) (g : Int) (nt : Nat) (t : List PV) : q_text brC n l a g nt t =
 brC (decide ((↑nt : Int) ≤ 1))
  (brC (decide (0 ≤ 0) && decide (0 < (↑nt : Int)))
    (brC (Nat.blt 0 (List.length (List.drop 0 t)) && PV.isStr (List.headD (List.drop 0 t) PV.nilp) && true)
      (some ((IV.cv (CV.pv (PV.str (PV.asStr (List.headD (List.drop 0 t) PV.nilp)))), [[CV.pv (PV.sl n l), CV.pv (PV.int IntKind.i64 a), CV.pv (PV.int IntKind.u64 g)]])))
      (none))
    (none))
  (brC (srcOk n l a g && decide ((↑nt : Int) ≤ 200))
    (brC (decide (0 ≤ pickV l (Int.toNat a) (↑nt : Int)) && decide (pickV l (Int.toNat a) (↑nt : Int) < (↑nt : Int)))
      (brC (Nat.blt 0 (List.length (List.drop (Int.toNat (pickV l (Int.toNat a) (↑nt : Int)) * 1) t)) && PV.isStr (List.headD (List.drop (Int.toNat (pickV l (Int.toNat a) (↑nt : Int)) * 1) t) PV.nilp) && true)
        (some ((IV.cv (CV.pv (PV.str (PV.asStr (List.headD (List.drop (Int.toNat (pickV l (Int.toNat a) (↑nt : Int)) * 1) t) PV.nilp)))), [[CV.pv (PV.sl n l), CV.pv (PV.int IntKind.i64 (a + 1)), CV.pv (PV.int IntKind.u64 (seedK l (Int.toNat a + 1)))]])))
        (none))
      (none))
    (none)) := by kernel_rfl
theorem q_one_eq (n : Nat) (l : List PV) (a : Int) (g : Int) (m : Int) : q_one brC n l a g m =
 brC (decide (m ≤ 1))
  (some ((IV.cv (CV.pv (PV.bool true)), [[CV.pv (PV.sl n l), CV.pv (PV.int IntKind.i64 a), CV.pv (PV.int IntKind.u64 g)]])))
  (brC (srcOk n l a g && decide (m ≤ 200))
    (some ((IV.cv (CV.pv (PV.bool (pickV l (Int.toNat a) m == 0))), [[CV.pv (PV.sl n l), CV.pv (PV.int IntKind.i64 (a + 1)), CV.pv (PV.int IntKind.u64 (seedK l (Int.toNat a + 1)))]])))
    (none)) := by kernel_rfl
theorem q_next_eq (n : Nat) (l : List PV) (a : Int) (g : Int) : q_next brC n l a g =
 brC (decide (a < (↑n : Int)))
  (brC (decide (0 ≤ a) && decide (a < (↑n : Int)))
    (brC (Nat.blt 0 (List.length (List.drop (Int.toNat a * 1) l)) && PV.isInt IntKind.u8 (List.headD (List.drop (Int.toNat a * 1) l) PV.nilp) && true)
      (brC (decide (IntKind.wrap IntKind.i64 (a + 1) ≤ (↑n : Int)))
        (some ((IV.cv (CV.pv (PV.int IntKind.i64 (IntKind.wrap IntKind.i64 (PV.asInt (List.headD (List.drop (Int.toNat a * 1) l) PV.nilp))))), [[CV.pv (PV.sl n l), CV.pv (PV.int IntKind.i64 (IntKind.wrap IntKind.i64 (a + 1))), CV.pv (PV.int IntKind.u64 (IntKind.wrap IntKind.u64 (IntKind.wrap IntKind.u64 (IntKind.wrap IntKind.u64 (g * 6364136223846793005) + IntKind.wrap IntKind.u64 (IntKind.wrap IntKind.i64 (PV.asInt (List.headD (List.drop (Int.toNat a * 1) l) PV.nilp)))) + 1442695040888963407)))]])))
        (some ((IV.cv (CV.pv (PV.int IntKind.i64 (IntKind.wrap IntKind.i64 (bits BinOp.and IntKind.u64 (Int.fdiv (IntKind.wrap IntKind.u64 (IntKind.wrap IntKind.u64 (IntKind.wrap IntKind.u64 (g * 6364136223846793005) + IntKind.wrap IntKind.u64 (IntKind.wrap IntKind.i64 (PV.asInt (List.headD (List.drop (Int.toNat a * 1) l) PV.nilp)))) + 1442695040888963407)) (2 ^ 40)) 255)))), [[CV.pv (PV.sl n l), CV.pv (PV.int IntKind.i64 (IntKind.wrap IntKind.i64 (a + 1))), CV.pv (PV.int IntKind.u64 (IntKind.wrap IntKind.u64 (IntKind.wrap IntKind.u64 (IntKind.wrap IntKind.u64 (g * 6364136223846793005) + IntKind.wrap IntKind.u64 (IntKind.wrap IntKind.i64 (PV.asInt (List.headD (List.drop (Int.toNat a * 1) l) PV.nilp)))) + 1442695040888963407)))]]))))
      (none))
    (none))
  (brC (decide (IntKind.wrap IntKind.i64 (a + 1) ≤ (↑n : Int)))
    (some ((IV.cv (CV.pv (PV.int IntKind.i64 (Int.ofNat 0))), [[CV.pv (PV.sl n l), CV.pv (PV.int IntKind.i64 (IntKind.wrap IntKind.i64 (a + 1))), CV.pv (PV.int IntKind.u64 (IntKind.wrap IntKind.u64 (IntKind.wrap IntKind.u64 (IntKind.wrap IntKind.u64 (g * 6364136223846793005) + IntKind.wrap IntKind.u64 0) + 1442695040888963407)))]])))
    (some ((IV.cv (CV.pv (PV.int IntKind.i64 (IntKind.wrap IntKind.i64 (bits BinOp.and IntKind.u64 (Int.fdiv (IntKind.wrap IntKind.u64 (IntKind.wrap IntKind.u64 (IntKind.wrap IntKind.u64 (g * 6364136223846793005) + IntKind.wrap IntKind.u64 0) + 1442695040888963407)) (2 ^ 40)) 255)))), [[CV.pv (PV.sl n l), CV.pv (PV.int IntKind.i64 (IntKind.wrap IntKind.i64 (a + 1))), CV.pv (PV.int IntKind.u64 (IntKind.wrap IntKind.u64 (IntKind.wrap IntKind.u64 (IntKind.wrap IntKind.u64 (g * 6364136223846793005) + IntKind.wrap IntKind.u64 0) + 1442695040888963407)))]])))) := by kernel_rfl
theorem q_from_eq (n : Nat) (l : List PV) : q_from brC n l =
 some ((IV.box 0 [CV.pv (PV.sl n l), CV.pv (PV.int IntKind.i64 (Int.ofNat 0)), CV.pv (PV.int IntKind.u64 (Int.ofNat 0))], [])) := by kernel_rfl
theorem q_pick_eq (n : Nat) (l : List PV) (a : Int) (g : Int) (m : Int) : q_pick brC n l a g m =
 brC (decide (m ≤ 1))
  (some ((IV.cv (CV.pv (PV.int IntKind.i64 (Int.ofNat 0))), [[CV.pv (PV.sl n l), CV.pv (PV.int IntKind.i64 a), CV.pv (PV.int IntKind.u64 g)]])))
  (brC (srcOk n l a g)
    (brC (decide (m > 200))
      (brC (srcOk n l (a + 1) (seedK l (Int.toNat a + 1)))
        (brC (m != 0 && true)
          (some ((IV.cv (CV.pv (PV.int IntKind.i64 (Int.tmod (IntKind.wrap IntKind.i64 (IntKind.wrap IntKind.i64 (drawK l (Int.toNat a) * 256) + drawK l (Int.toNat (a + 1)))) m))), [[CV.pv (PV.sl n l), CV.pv (PV.int IntKind.i64 (a + 1 + 1)), CV.pv (PV.int IntKind.u64 (seedK l (Int.toNat (a + 1) + 1)))]])))
          (none))
        (none))
      (brC (m != 0 && true)
        (some ((IV.cv (CV.pv (PV.int IntKind.i64 (Int.tmod (drawK l (Int.toNat a)) m))), [[CV.pv (PV.sl n l), CV.pv (PV.int IntKind.i64 (a + 1)), CV.pv (PV.int IntKind.u64 (seedK l (Int.toNat a + 1)))]])))
        (none)))
    (none)) := by kernel_rfl
end Go.Proofs.Ytdegegajoccdjaa
