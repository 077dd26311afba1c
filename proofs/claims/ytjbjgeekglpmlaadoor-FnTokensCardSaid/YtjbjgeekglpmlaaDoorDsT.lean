/- Trees (printed by vx/trees.sh; numbers of one seat). -/
import Derived.Test.YtjbjgeekglpmlaaDoorDsD
namespace Go.Proofs.YtjbjgeekglpmlaaDoor
set_option linter.unusedVariables false
set_option maxRecDepth 100000
theorem q_line_eq (n : Nat) (l : List PV) (a : Int) (g : Int) : q_line brC n l a g =
 brC (srcOk n l a g && decide (10 ≤ 200))
  (brC (srcOk n l (a + 1) (seedK l (Int.toNat a + 1)) && decide (0 ≤ pickV l (Int.toNat a) 10) && decide (a + 1 + pickV l (Int.toNat a) 10 ≤ 1048576) && decide ((↑0 : Int) + 10 * pickV l (Int.toNat a) 10 ≤ 1048576))
    (brC (srcOk n l (a + 1 + pickV l (Int.toNat a) 10) (seedK l (Int.toNat (a + 1) + Int.toNat (pickV l (Int.toNat a) 10))) && decide (14 ≤ 200))
      (brC (pickV l (Int.toNat (a + 1 + pickV l (Int.toNat a) 10)) 14 == 0)
        (brC (srcOk n l (a + 1 + pickV l (Int.toNat a) 10 + 1) (seedK l (Int.toNat (a + 1 + pickV l (Int.toNat a) 10) + 1)) && wfT 6 [PV.str { data := #[34] }, PV.str { data := #[59] }, PV.str { data := #[0] }, PV.str { data := #[126] }, PV.str { data := #[9] }, PV.str { data := #[34, 97] }])
          (brC (decide (ByteArray.size ({ data := #[] } ++ piecesV l (Int.toNat (a + 1)) (Int.toNat (pickV l (Int.toNat a) 10))) + ByteArray.size (textV l (Int.toNat (a + 1 + pickV l (Int.toNat a) 10 + 1)) [PV.str { data := #[34] }, PV.str { data := #[59] }, PV.str { data := #[0] }, PV.str { data := #[126] }, PV.str { data := #[9] }, PV.str { data := #[34, 97] }]) ≤ 9223372036854775807) && true)
            (some ((IV.cv (CV.pv (PV.str ({ data := #[] } ++ piecesV l (Int.toNat (a + 1)) (Int.toNat (pickV l (Int.toNat a) 10)) ++ textV l (Int.toNat (a + 1 + pickV l (Int.toNat a) 10 + 1)) [PV.str { data := #[34] }, PV.str { data := #[59] }, PV.str { data := #[0] }, PV.str { data := #[126] }, PV.str { data := #[9] }, PV.str { data := #[34, 97] }]))), [[CV.pv (PV.sl n l), CV.pv (PV.int IntKind.i64 (a + 1 + pickV l (Int.toNat a) 10 + 1 + 1)), CV.pv (PV.int IntKind.u64 (seedK l (Int.toNat (a + 1 + pickV l (Int.toNat a) 10 + 1) + 1)))]])))
            (none))
          (none))
        (brC (pickV l (Int.toNat (a + 1 + pickV l (Int.toNat a) 10)) 14 == 1)
          (brC (decide (ByteArray.size ({ data := #[] } ++ piecesV l (Int.toNat (a + 1)) (Int.toNat (pickV l (Int.toNat a) 10))) ≤ 1048576))
            (brC (srcOk n l (a + 1 + pickV l (Int.toNat a) 10 + 1) (seedK l (Int.toNat (a + 1 + pickV l (Int.toNat a) 10) + 1)) && wfT 3 [PV.str { data := #[] }, PV.str { data := #[98] }, PV.str { data := #[98, 99] }])
              (brC (decide (ByteArray.size (padA ({ data := #[] } ++ piecesV l (Int.toNat (a + 1)) (Int.toNat (pickV l (Int.toNat a) 10)))) + ByteArray.size (textV l (Int.toNat (a + 1 + pickV l (Int.toNat a) 10 + 1)) [PV.str { data := #[] }, PV.str { data := #[98] }, PV.str { data := #[98, 99] }]) ≤ 9223372036854775807) && true)
                (some ((IV.cv (CV.pv (PV.str (padA ({ data := #[] } ++ piecesV l (Int.toNat (a + 1)) (Int.toNat (pickV l (Int.toNat a) 10))) ++ textV l (Int.toNat (a + 1 + pickV l (Int.toNat a) 10 + 1)) [PV.str { data := #[] }, PV.str { data := #[98] }, PV.str { data := #[98, 99] }]))), [[CV.pv (PV.sl n l), CV.pv (PV.int IntKind.i64 (a + 1 + pickV l (Int.toNat a) 10 + 1 + 1)), CV.pv (PV.int IntKind.u64 (seedK l (Int.toNat (a + 1 + pickV l (Int.toNat a) 10 + 1) + 1)))]])))
                (none))
              (none))
            (none))
          (some ((IV.cv (CV.pv (PV.str ({ data := #[] } ++ piecesV l (Int.toNat (a + 1)) (Int.toNat (pickV l (Int.toNat a) 10))))), [[CV.pv (PV.sl n l), CV.pv (PV.int IntKind.i64 (a + 1 + pickV l (Int.toNat a) 10 + 1)), CV.pv (PV.int IntKind.u64 (seedK l (Int.toNat (a + 1 + pickV l (Int.toNat a) 10) + 1)))]])))))
      (none))
    (none))
  (none) := by kernel_rfl
theorem q_pick_eq (n : Nat) (l : List PV) (a : Int) (g : Int) (m : Int) : q_pick brC n l a g m =
 brC (decide (m ≤ 1))
  (some ((IV.cv (CV.pv (PV.int IntKind.i64 (Int.ofNat 0))), [[CV.pv (PV.sl n l), CV.pv (PV.int IntKind.i64 a), CV.pv (PV.int IntKind.u64 g)]])))
  (brC (srcOk n l a g)
    (brC (decide (m > 200))
      (brC (srcOk n l (a + 1) (seedK l (Int.toNat a + 1)))
        (brC (m != 0 && true)
          (some ((IV.cv (CV.pv (PV.int IntKind.i64 (Int.tmod (IntKind.wrap IntKind.i64 (IntKind.wrap IntKind.i64 (drawK l (Int.toNat a) * 256) + drawK l (Int.toNat (a + 1)))) m))), [[CV.pv (PV.sl n l), CV.pv (PV.int IntKind.i64 (a + 1 + 1)), CV.pv (PV.int IntKind.u64 (seedK l (Int.toNat (a + 1) + 1)))]])))
          (none))
        (none))
      (brC (m != 0 && true)
        (some ((IV.cv (CV.pv (PV.int IntKind.i64 (Int.tmod (drawK l (Int.toNat a)) m))), [[CV.pv (PV.sl n l), CV.pv (PV.int IntKind.i64 (a + 1)), CV.pv (PV.int IntKind.u64 (seedK l (Int.toNat a + 1)))]])))
        (none)))
    (none)) := by kernel_rfl
theorem q_from_eq (n : Nat) (l : List PV) : q_from brC n l =
 some ((IV.box 0 [CV.pv (PV.sl n l), CV.pv (PV.int IntKind.i64 (Int.ofNat 0)), CV.pv (PV.int IntKind.u64 (Int.ofNat 0))], [])) := by kernel_rfl
theorem q_piece_eq (n : Nat) (l : List PV) (a : Int) (g : Int) : q_piece brC n l a g =
 brC (srcOk n l a g && wfT 43 [PV.str { data := #[65] }, PV.str { data := #[37, 88] }, PV.str { data := #[97, 98, 49] }, PV.str { data := #[49] }, PV.str { data := #[49, 50, 46, 53] }, PV.str { data := #[46, 53] }, PV.str { data := #[55, 46] }, PV.str { data := #[34, 120, 34] }, PV.str { data := #[34, 97, 34, 34, 98, 34] }, PV.str { data := #[34, 34] }, PV.str { data := #[32] }, PV.str { data := #[32, 32] }, PV.str { data := #[40] }, PV.str { data := #[41] }, PV.str { data := #[44] }, PV.str { data := #[58] }, PV.str { data := #[43] }, PV.str { data := #[45] }, PV.str { data := #[42] }, PV.str { data := #[47] }, PV.str { data := #[92] }, PV.str { data := #[35] }, PV.str { data := #[95] }, PV.str { data := #[61] }, PV.str { data := #[39, 61] }, PV.str { data := #[60] }, PV.str { data := #[62] }, PV.str { data := #[39, 60] }, PV.str { data := #[91] }, PV.str { data := #[93] }, PV.str { data := #[93, 93] }, PV.str { data := #[39, 91] }, PV.str { data := #[39, 93] }, PV.str { data := #[38] }, PV.str { data := #[33] }, PV.str { data := #[39] }, PV.str { data := #[63] }, PV.str { data := #[64] }, PV.str { data := #[94] }, PV.str { data := #[36] }, PV.str { data := #[36, 36] }, PV.str { data := #[46] }, PV.str { data := #[46, 65] }])
  (some ((IV.cv (CV.pv (PV.str (textV l (Int.toNat a) [PV.str { data := #[65] }, PV.str { data := #[37, 88] }, PV.str { data := #[97, 98, 49] }, PV.str { data := #[49] }, PV.str { data := #[49, 50, 46, 53] }, PV.str { data := #[46, 53] }, PV.str { data := #[55, 46] }, PV.str { data := #[34, 120, 34] }, PV.str { data := #[34, 97, 34, 34, 98, 34] }, PV.str { data := #[34, 34] }, PV.str { data := #[32] }, PV.str { data := #[32, 32] }, PV.str { data := #[40] }, PV.str { data := #[41] }, PV.str { data := #[44] }, PV.str { data := #[58] }, PV.str { data := #[43] }, PV.str { data := #[45] }, PV.str { data := #[42] }, PV.str { data := #[47] }, PV.str { data := #[92] }, PV.str { data := #[35] }, PV.str { data := #[95] }, PV.str { data := #[61] }, PV.str { data := #[39, 61] }, PV.str { data := #[60] }, PV.str { data := #[62] }, PV.str { data := #[39, 60] }, PV.str { data := #[91] }, PV.str { data := #[93] }, PV.str { data := #[93, 93] }, PV.str { data := #[39, 91] }, PV.str { data := #[39, 93] }, PV.str { data := #[38] }, PV.str { data := #[33] }, PV.str { data := #[39] }, PV.str { data := #[63] }, PV.str { data := #[64] }, PV.str { data := #[94] }, PV.str { data := #[36] }, PV.str { data := #[36, 36] }, PV.str { data := #[46] }, PV.str { data := #[46, 65] }]))), [[CV.pv (PV.sl n l), CV.pv (PV.int IntKind.i64 (a + 1)), CV.pv (PV.int IntKind.u64 (seedK l (Int.toNat a + 1)))]])))
  (none) := by kernel_rfl
theorem q_text_eq (n : Nat) (l : List PV) (a : Int) (g : Int) (nt : Nat) (t : List PV) : q_text brC n l a g nt t =
 brC (decide ((↑nt : Int) ≤ 1))
  (brC (decide (0 ≤ 0) && decide (0 < (↑nt : Int)))
    (brC (Nat.blt 0 (List.length (List.drop 0 t)) && PV.isStr (List.headD (List.drop 0 t) PV.nilp) && true)
      (some ((IV.cv (CV.pv (PV.str (PV.asStr (List.headD (List.drop 0 t) PV.nilp)))), [[CV.pv (PV.sl n l), CV.pv (PV.int IntKind.i64 a), CV.pv (PV.int IntKind.u64 g)]])))
      (none))
    (none))
  (brC (srcOk n l a g && decide ((↑nt : Int) ≤ 200))
    (brC (decide (0 ≤ pickV l (Int.toNat a) (↑nt : Int)) && decide (pickV l (Int.toNat a) (↑nt : Int) < (↑nt : Int)))
      (brC (Nat.blt 0 (List.length (List.drop (Int.toNat (pickV l (Int.toNat a) (↑nt : Int)) * 1) t)) && PV.isStr (List.headD (List.drop (Int.toNat (pickV l (Int.toNat a) (↑nt : Int)) * 1) t) PV.nilp) && true)
        (some ((IV.cv (CV.pv (PV.str (PV.asStr (List.headD (List.drop (Int.toNat (pickV l (Int.toNat a) (↑nt : Int)) * 1) t) PV.nilp)))), [[CV.pv (PV.sl n l), CV.pv (PV.int IntKind.i64 (a + 1)), CV.pv (PV.int IntKind.u64 (seedK l (Int.toNat a + 1)))]])))
        (none))
      (none))
    (none)) := by kernel_rfl
theorem r_line2_eq (c : List CV) (t : ByteArray) : r_line2 brC c t =
 brC (decide ((↑(ByteArray.size t) : Int) < 119))
  (brC (decide (ByteArray.size t + 1 ≤ 9223372036854775807) && true)
    (some (Sum.inl [(AV.ptr 0 0, some (Ob.box c)), (AV.pv (PV.str (t ++ { data := #[97] })), none)]))
    (none))
  (some (Sum.inr (Ex.exit 3, [(AV.ptr 0 0, some (Ob.box c)), (AV.pv (PV.str t), none)]))) := by kernel_rfl
theorem q_next_eq (n : Nat) (l : List PV) (a : Int) (g : Int) : q_next brC n l a g =
 brC (decide (a < (↑n : Int)))
  (brC (decide (0 ≤ a) && decide (a < (↑n : Int)))
    (brC (Nat.blt 0 (List.length (List.drop (Int.toNat a * 1) l)) && PV.isInt IntKind.u8 (List.headD (List.drop (Int.toNat a * 1) l) PV.nilp) && true)
      (brC (decide (IntKind.wrap IntKind.i64 (a + 1) ≤ (↑n : Int)))
        (some ((IV.cv (CV.pv (PV.int IntKind.i64 (IntKind.wrap IntKind.i64 (PV.asInt (List.headD (List.drop (Int.toNat a * 1) l) PV.nilp))))), [[CV.pv (PV.sl n l), CV.pv (PV.int IntKind.i64 (IntKind.wrap IntKind.i64 (a + 1))), CV.pv (PV.int IntKind.u64 (IntKind.wrap IntKind.u64 (IntKind.wrap IntKind.u64 (IntKind.wrap IntKind.u64 (g * 6364136223846793005) + IntKind.wrap IntKind.u64 (IntKind.wrap IntKind.i64 (PV.asInt (List.headD (List.drop (Int.toNat a * 1) l) PV.nilp)))) + 1442695040888963407)))]])))
        (some ((IV.cv (CV.pv (PV.int IntKind.i64 (IntKind.wrap IntKind.i64 (bits BinOp.and IntKind.u64 (Int.fdiv (IntKind.wrap IntKind.u64 (IntKind.wrap IntKind.u64 (IntKind.wrap IntKind.u64 (g * 6364136223846793005) + IntKind.wrap IntKind.u64 (IntKind.wrap IntKind.i64 (PV.asInt (List.headD (List.drop (Int.toNat a * 1) l) PV.nilp)))) + 1442695040888963407)) (2 ^ 40)) 255)))), [[CV.pv (PV.sl n l), CV.pv (PV.int IntKind.i64 (IntKind.wrap IntKind.i64 (a + 1))), CV.pv (PV.int IntKind.u64 (IntKind.wrap IntKind.u64 (IntKind.wrap IntKind.u64 (IntKind.wrap IntKind.u64 (g * 6364136223846793005) + IntKind.wrap IntKind.u64 (IntKind.wrap IntKind.i64 (PV.asInt (List.headD (List.drop (Int.toNat a * 1) l) PV.nilp)))) + 1442695040888963407)))]]))))
      (none))
    (none))
  (brC (decide (IntKind.wrap IntKind.i64 (a + 1) ≤ (↑n : Int)))
    (some ((IV.cv (CV.pv (PV.int IntKind.i64 (Int.ofNat 0))), [[CV.pv (PV.sl n l), CV.pv (PV.int IntKind.i64 (IntKind.wrap IntKind.i64 (a + 1))), CV.pv (PV.int IntKind.u64 (IntKind.wrap IntKind.u64 (IntKind.wrap IntKind.u64 (IntKind.wrap IntKind.u64 (g * 6364136223846793005) + IntKind.wrap IntKind.u64 0) + 1442695040888963407)))]])))
    (some ((IV.cv (CV.pv (PV.int IntKind.i64 (IntKind.wrap IntKind.i64 (bits BinOp.and IntKind.u64 (Int.fdiv (IntKind.wrap IntKind.u64 (IntKind.wrap IntKind.u64 (IntKind.wrap IntKind.u64 (g * 6364136223846793005) + IntKind.wrap IntKind.u64 0) + 1442695040888963407)) (2 ^ 40)) 255)))), [[CV.pv (PV.sl n l), CV.pv (PV.int IntKind.i64 (IntKind.wrap IntKind.i64 (a + 1))), CV.pv (PV.int IntKind.u64 (IntKind.wrap IntKind.u64 (IntKind.wrap IntKind.u64 (IntKind.wrap IntKind.u64 (g * 6364136223846793005) + IntKind.wrap IntKind.u64 0) + 1442695040888963407)))]])))) := by kernel_rfl
theorem r_line1_eq (n : Nat) (l : List PV) (a : Int) (g : Int) (t : ByteArray) (i : Int) : r_line1 brC n l a g t i =
 brC (decide (i > 0))
  (brC (srcOk n l a g)
    (brC (decide (ByteArray.size t + ByteArray.size (textV l (Int.toNat a) pieceL) ≤ 9223372036854775807) && true)
      (some (Sum.inl [(AV.ptr 0 0, some (Ob.box [CV.pv (PV.sl n l), CV.pv (PV.int IntKind.i64 (a + 1)), CV.pv (PV.int IntKind.u64 (seedK l (Int.toNat a + 1)))])), (AV.pv (PV.str (t ++ textV l (Int.toNat a) pieceL)), none), (AV.pv (PV.int IntKind.i64 (IntKind.wrap IntKind.i64 (i - 1))), none)]))
      (none))
    (none))
  (some (Sum.inr (Ex.exit 0, [(AV.ptr 0 0, some (Ob.box [CV.pv (PV.sl n l), CV.pv (PV.int IntKind.i64 a), CV.pv (PV.int IntKind.u64 g)])), (AV.pv (PV.str t), none)]))) := by kernel_rfl
end Go.Proofs.YtjbjgeekglpmlaaDoor
