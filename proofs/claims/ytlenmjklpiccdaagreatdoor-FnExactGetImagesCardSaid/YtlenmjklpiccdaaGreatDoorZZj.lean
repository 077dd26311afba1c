import Derived.Test.YtlenmjklpiccdaaGreatDoorZZi
namespace Go.Proofs.YtlenmjklpiccdaaGreatDoor
section
set_option linter.unusedVariables false
set_option maxRecDepth 100000
theorem r_gi_eq (s : ByteArray) (r : ByteArray) (b : Bool) (l : List ImT) (n : Int) : r_gi brC s r b l n =
 brC (decide (n > 0))
 (brC (!b)
 (brC (decide (ByteArray.size r ≤ 2000000))
 (brC (decide (0 ≤ oneV r) && decide (ByteArray.size (tkR r 1) ≤ 2000000))
 (brC (decide (ByteArray.size (tkS (tkR r 1) (Int.toNat (oneV r))) ≤ 2000) && holds (isKy (tkS (tkR r 1) (Int.toNat (oneV r)))))
 (brC (decide (ByteArray.size (tkR (tkR r 1) (Int.toNat (oneV r))) ≤ 2000000))
 (brC (bits BinOp.and IntKind.i64 (oneV (tkR (tkR r 1) (Int.toNat (oneV r)))) 1 == 1)
 (brC (decide (ByteArray.size (tkR (tkR (tkR r 1) (Int.toNat (oneV r))) 1) ≤ 2000000))
 (brC (decide (0 ≤ oneV (tkR (tkR (tkR r 1) (Int.toNat (oneV r))) 1)) && decide (ByteArray.size (tkR (tkR (tkR (tkR r 1) (Int.toNat (oneV r))) 1) 1) ≤ 2000000))
 (brC (bits BinOp.and IntKind.i64 (oneV (tkR (tkR r 1) (Int.toNat (oneV r)))) 2 == 2)
 (brC (decide (ByteArray.size (tkR (tkR (tkR (tkR (tkR r 1) (Int.toNat (oneV r))) 1) 1) (Int.toNat (oneV (tkR (tkR (tkR r 1) (Int.toNat (oneV r))) 1)))) ≤ 2000000))
 (brC (decide (0 ≤ oneV (tkR (tkR (tkR (tkR (tkR r 1) (Int.toNat (oneV r))) 1) 1) (Int.toNat (oneV (tkR (tkR (tkR r 1) (Int.toNat (oneV r))) 1))))) && decide (ByteArray.size (tkR (tkR (tkR (tkR (tkR (tkR r 1) (Int.toNat (oneV r))) 1) 1) (Int.toNat (oneV (tkR (tkR (tkR r 1) (Int.toNat (oneV r))) 1)))) 1) ≤ 2000000))
 (brC (decide (List.length l + 1 ≤ 140737488351232) && decide ((List.length l + 1) * 88 ≤ 140737488355328))
 (some (Sum.inl [(AV.pv (PV.str s), none), (AV.ptr 16384 0, some (Ob.box [CV.pv (PV.str (tkR (tkR (tkR (tkR (tkR (tkR (tkR r 1) (Int.toNat (oneV r))) 1) 1) (Int.toNat (oneV (tkR (tkR (tkR r 1) (Int.toNat (oneV r))) 1)))) 1) (Int.toNat (oneV (tkR (tkR (tkR (tkR (tkR r 1) (Int.toNat (oneV r))) 1) 1) (Int.toNat (oneV (tkR (tkR (tkR r 1) (Int.toNat (oneV r))) 1)))))))), CV.pv (PV.bool (tkB (tkR (tkR (tkR (tkR (tkR (tkR r 1) (Int.toNat (oneV r))) 1) 1) (Int.toNat (oneV (tkR (tkR (tkR r 1) (Int.toNat (oneV r))) 1)))) 1) (tkB (tkR (tkR (tkR (tkR (tkR r 1) (Int.toNat (oneV r))) 1) 1) (Int.toNat (oneV (tkR (tkR (tkR r 1) (Int.toNat (oneV r))) 1)))) (tkB (tkR (tkR (tkR (tkR r 1) (Int.toNat (oneV r))) 1) 1) (tkB (tkR (tkR (tkR r 1) (Int.toNat (oneV r))) 1) (tkB (tkR (tkR r 1) (Int.toNat (oneV r))) (tkB (tkR r 1) (tkB r b 1) (Int.toNat (oneV r))) 1) 1) (Int.toNat (oneV (tkR (tkR (tkR r 1) (Int.toNat (oneV r))) 1)))) 1) (Int.toNat (oneV (tkR (tkR (tkR (tkR (tkR r 1) (Int.toNat (oneV r))) 1) 1) (Int.toNat (oneV (tkR (tkR (tkR r 1) (Int.toNat (oneV r))) 1))))))))])), (AV.own 20480, some (Ob.dls 6 37 (List.length l + 1) (encIm l ++ [PV.str (Prod.fst (deKy (tkS (tkR r 1) (Int.toNat (oneV r))))), PV.sl (List.length (Prod.snd (deKy (tkS (tkR r 1) (Int.toNat (oneV r)))))) (List.map PV.str (Prod.snd (deKy (tkS (tkR r 1) (Int.toNat (oneV r)))))), PV.bool (bits BinOp.and IntKind.i64 (oneV (tkR (tkR r 1) (Int.toNat (oneV r)))) 1 == 1), PV.str (tkS (tkR (tkR (tkR (tkR r 1) (Int.toNat (oneV r))) 1) 1) (Int.toNat (oneV (tkR (tkR (tkR r 1) (Int.toNat (oneV r))) 1)))), PV.bool (bits BinOp.and IntKind.i64 (oneV (tkR (tkR r 1) (Int.toNat (oneV r)))) 2 == 2), PV.str (tkS (tkR (tkR (tkR (tkR (tkR (tkR r 1) (Int.toNat (oneV r))) 1) 1) (Int.toNat (oneV (tkR (tkR (tkR r 1) (Int.toNat (oneV r))) 1)))) 1) (Int.toNat (oneV (tkR (tkR (tkR (tkR (tkR r 1) (Int.toNat (oneV r))) 1) 1) (Int.toNat (oneV (tkR (tkR (tkR r 1) (Int.toNat (oneV r))) 1)))))))]) true none)), (AV.pv (PV.int IntKind.i64 (IntKind.wrap IntKind.i64 (n - 1))), none)]))
 (none))
 (none))
 (none))
 (brC (decide (List.length l + 1 ≤ 140737488351232) && decide ((List.length l + 1) * 88 ≤ 140737488355328))
 (some (Sum.inl [(AV.pv (PV.str s), none), (AV.ptr 16384 0, some (Ob.box [CV.pv (PV.str (tkR (tkR (tkR (tkR (tkR r 1) (Int.toNat (oneV r))) 1) 1) (Int.toNat (oneV (tkR (tkR (tkR r 1) (Int.toNat (oneV r))) 1))))), CV.pv (PV.bool (tkB (tkR (tkR (tkR (tkR r 1) (Int.toNat (oneV r))) 1) 1) (tkB (tkR (tkR (tkR r 1) (Int.toNat (oneV r))) 1) (tkB (tkR (tkR r 1) (Int.toNat (oneV r))) (tkB (tkR r 1) (tkB r b 1) (Int.toNat (oneV r))) 1) 1) (Int.toNat (oneV (tkR (tkR (tkR r 1) (Int.toNat (oneV r))) 1)))))])), (AV.own 20480, some (Ob.dls 6 37 (List.length l + 1) (encIm l ++ [PV.str (Prod.fst (deKy (tkS (tkR r 1) (Int.toNat (oneV r))))), PV.sl (List.length (Prod.snd (deKy (tkS (tkR r 1) (Int.toNat (oneV r)))))) (List.map PV.str (Prod.snd (deKy (tkS (tkR r 1) (Int.toNat (oneV r)))))), PV.bool (bits BinOp.and IntKind.i64 (oneV (tkR (tkR r 1) (Int.toNat (oneV r)))) 1 == 1), PV.str (tkS (tkR (tkR (tkR (tkR r 1) (Int.toNat (oneV r))) 1) 1) (Int.toNat (oneV (tkR (tkR (tkR r 1) (Int.toNat (oneV r))) 1)))), PV.bool (bits BinOp.and IntKind.i64 (oneV (tkR (tkR r 1) (Int.toNat (oneV r)))) 2 == 2), PV.str { data := #[] }]) true none)), (AV.pv (PV.int IntKind.i64 (IntKind.wrap IntKind.i64 (n - 1))), none)]))
 (none)))
 (none))
 (none))
 (brC (bits BinOp.and IntKind.i64 (oneV (tkR (tkR r 1) (Int.toNat (oneV r)))) 2 == 2)
 (brC (decide (ByteArray.size (tkR (tkR (tkR r 1) (Int.toNat (oneV r))) 1) ≤ 2000000))
 (brC (decide (0 ≤ oneV (tkR (tkR (tkR r 1) (Int.toNat (oneV r))) 1)) && decide (ByteArray.size (tkR (tkR (tkR (tkR r 1) (Int.toNat (oneV r))) 1) 1) ≤ 2000000))
 (brC (decide (List.length l + 1 ≤ 140737488351232) && decide ((List.length l + 1) * 88 ≤ 140737488355328))
 (some (Sum.inl [(AV.pv (PV.str s), none), (AV.ptr 16384 0, some (Ob.box [CV.pv (PV.str (tkR (tkR (tkR (tkR (tkR r 1) (Int.toNat (oneV r))) 1) 1) (Int.toNat (oneV (tkR (tkR (tkR r 1) (Int.toNat (oneV r))) 1))))), CV.pv (PV.bool (tkB (tkR (tkR (tkR (tkR r 1) (Int.toNat (oneV r))) 1) 1) (tkB (tkR (tkR (tkR r 1) (Int.toNat (oneV r))) 1) (tkB (tkR (tkR r 1) (Int.toNat (oneV r))) (tkB (tkR r 1) (tkB r b 1) (Int.toNat (oneV r))) 1) 1) (Int.toNat (oneV (tkR (tkR (tkR r 1) (Int.toNat (oneV r))) 1)))))])), (AV.own 20480, some (Ob.dls 6 37 (List.length l + 1) (encIm l ++ [PV.str (Prod.fst (deKy (tkS (tkR r 1) (Int.toNat (oneV r))))), PV.sl (List.length (Prod.snd (deKy (tkS (tkR r 1) (Int.toNat (oneV r)))))) (List.map PV.str (Prod.snd (deKy (tkS (tkR r 1) (Int.toNat (oneV r)))))), PV.bool (bits BinOp.and IntKind.i64 (oneV (tkR (tkR r 1) (Int.toNat (oneV r)))) 1 == 1), PV.str { data := #[] }, PV.bool (bits BinOp.and IntKind.i64 (oneV (tkR (tkR r 1) (Int.toNat (oneV r)))) 2 == 2), PV.str (tkS (tkR (tkR (tkR (tkR r 1) (Int.toNat (oneV r))) 1) 1) (Int.toNat (oneV (tkR (tkR (tkR r 1) (Int.toNat (oneV r))) 1))))]) true none)), (AV.pv (PV.int IntKind.i64 (IntKind.wrap IntKind.i64 (n - 1))), none)]))
 (none))
 (none))
 (none))
 (brC (decide (List.length l + 1 ≤ 140737488351232) && decide ((List.length l + 1) * 88 ≤ 140737488355328))
 (some (Sum.inl [(AV.pv (PV.str s), none), (AV.ptr 16384 0, some (Ob.box [CV.pv (PV.str (tkR (tkR (tkR r 1) (Int.toNat (oneV r))) 1)), CV.pv (PV.bool (tkB (tkR (tkR r 1) (Int.toNat (oneV r))) (tkB (tkR r 1) (tkB r b 1) (Int.toNat (oneV r))) 1))])), (AV.own 20480, some (Ob.dls 6 37 (List.length l + 1) (encIm l ++ [PV.str (Prod.fst (deKy (tkS (tkR r 1) (Int.toNat (oneV r))))), PV.sl (List.length (Prod.snd (deKy (tkS (tkR r 1) (Int.toNat (oneV r)))))) (List.map PV.str (Prod.snd (deKy (tkS (tkR r 1) (Int.toNat (oneV r)))))), PV.bool (bits BinOp.and IntKind.i64 (oneV (tkR (tkR r 1) (Int.toNat (oneV r)))) 1 == 1), PV.str { data := #[] }, PV.bool (bits BinOp.and IntKind.i64 (oneV (tkR (tkR r 1) (Int.toNat (oneV r)))) 2 == 2), PV.str { data := #[] }]) true none)), (AV.pv (PV.int IntKind.i64 (IntKind.wrap IntKind.i64 (n - 1))), none)]))
 (none))))
 (none))
 (brC (decide (ByteArray.size (tkS (tkR r 1) (Int.toNat (oneV r))) ≤ 2000))
 (brC (decide (ByteArray.size (tkR (tkR r 1) (Int.toNat (oneV r))) ≤ 2000000))
 (brC (bits BinOp.and IntKind.i64 (oneV (tkR (tkR r 1) (Int.toNat (oneV r)))) 1 == 1)
 (brC (decide (ByteArray.size (tkR (tkR (tkR r 1) (Int.toNat (oneV r))) 1) ≤ 2000000))
 (brC (decide (0 ≤ oneV (tkR (tkR (tkR r 1) (Int.toNat (oneV r))) 1)) && decide (ByteArray.size (tkR (tkR (tkR (tkR r 1) (Int.toNat (oneV r))) 1) 1) ≤ 2000000))
 (brC (bits BinOp.and IntKind.i64 (oneV (tkR (tkR r 1) (Int.toNat (oneV r)))) 2 == 2)
 (brC (decide (ByteArray.size (tkR (tkR (tkR (tkR (tkR r 1) (Int.toNat (oneV r))) 1) 1) (Int.toNat (oneV (tkR (tkR (tkR r 1) (Int.toNat (oneV r))) 1)))) ≤ 2000000))
 (brC (decide (0 ≤ oneV (tkR (tkR (tkR (tkR (tkR r 1) (Int.toNat (oneV r))) 1) 1) (Int.toNat (oneV (tkR (tkR (tkR r 1) (Int.toNat (oneV r))) 1))))) && decide (ByteArray.size (tkR (tkR (tkR (tkR (tkR (tkR r 1) (Int.toNat (oneV r))) 1) 1) (Int.toNat (oneV (tkR (tkR (tkR r 1) (Int.toNat (oneV r))) 1)))) 1) ≤ 2000000))
 (brC (decide (List.length l + 1 ≤ 140737488351232) && decide ((List.length l + 1) * 88 ≤ 140737488355328))
 (some (Sum.inl [(AV.pv (PV.str s), none), (AV.ptr 16384 0, some (Ob.box [CV.pv (PV.str (tkR (tkR (tkR (tkR (tkR (tkR (tkR r 1) (Int.toNat (oneV r))) 1) 1) (Int.toNat (oneV (tkR (tkR (tkR r 1) (Int.toNat (oneV r))) 1)))) 1) (Int.toNat (oneV (tkR (tkR (tkR (tkR (tkR r 1) (Int.toNat (oneV r))) 1) 1) (Int.toNat (oneV (tkR (tkR (tkR r 1) (Int.toNat (oneV r))) 1)))))))), CV.pv (PV.bool (tkB (tkR (tkR (tkR (tkR (tkR (tkR r 1) (Int.toNat (oneV r))) 1) 1) (Int.toNat (oneV (tkR (tkR (tkR r 1) (Int.toNat (oneV r))) 1)))) 1) (tkB (tkR (tkR (tkR (tkR (tkR r 1) (Int.toNat (oneV r))) 1) 1) (Int.toNat (oneV (tkR (tkR (tkR r 1) (Int.toNat (oneV r))) 1)))) (tkB (tkR (tkR (tkR (tkR r 1) (Int.toNat (oneV r))) 1) 1) (tkB (tkR (tkR (tkR r 1) (Int.toNat (oneV r))) 1) (tkB (tkR (tkR r 1) (Int.toNat (oneV r))) (tkB (tkR r 1) (tkB r b 1) (Int.toNat (oneV r))) 1) 1) (Int.toNat (oneV (tkR (tkR (tkR r 1) (Int.toNat (oneV r))) 1)))) 1) (Int.toNat (oneV (tkR (tkR (tkR (tkR (tkR r 1) (Int.toNat (oneV r))) 1) 1) (Int.toNat (oneV (tkR (tkR (tkR r 1) (Int.toNat (oneV r))) 1))))))))])), (AV.own 20480, some (Ob.dls 6 37 (List.length l + 1) (encIm l ++ [PV.str { data := #[] }, PV.sl 0 [], PV.bool (bits BinOp.and IntKind.i64 (oneV (tkR (tkR r 1) (Int.toNat (oneV r)))) 1 == 1), PV.str (tkS (tkR (tkR (tkR (tkR r 1) (Int.toNat (oneV r))) 1) 1) (Int.toNat (oneV (tkR (tkR (tkR r 1) (Int.toNat (oneV r))) 1)))), PV.bool (bits BinOp.and IntKind.i64 (oneV (tkR (tkR r 1) (Int.toNat (oneV r)))) 2 == 2), PV.str (tkS (tkR (tkR (tkR (tkR (tkR (tkR r 1) (Int.toNat (oneV r))) 1) 1) (Int.toNat (oneV (tkR (tkR (tkR r 1) (Int.toNat (oneV r))) 1)))) 1) (Int.toNat (oneV (tkR (tkR (tkR (tkR (tkR r 1) (Int.toNat (oneV r))) 1) 1) (Int.toNat (oneV (tkR (tkR (tkR r 1) (Int.toNat (oneV r))) 1)))))))]) true none)), (AV.pv (PV.int IntKind.i64 (IntKind.wrap IntKind.i64 (n - 1))), none)]))
 (none))
 (none))
 (none))
 (brC (decide (List.length l + 1 ≤ 140737488351232) && decide ((List.length l + 1) * 88 ≤ 140737488355328))
 (some (Sum.inl [(AV.pv (PV.str s), none), (AV.ptr 16384 0, some (Ob.box [CV.pv (PV.str (tkR (tkR (tkR (tkR (tkR r 1) (Int.toNat (oneV r))) 1) 1) (Int.toNat (oneV (tkR (tkR (tkR r 1) (Int.toNat (oneV r))) 1))))), CV.pv (PV.bool (tkB (tkR (tkR (tkR (tkR r 1) (Int.toNat (oneV r))) 1) 1) (tkB (tkR (tkR (tkR r 1) (Int.toNat (oneV r))) 1) (tkB (tkR (tkR r 1) (Int.toNat (oneV r))) (tkB (tkR r 1) (tkB r b 1) (Int.toNat (oneV r))) 1) 1) (Int.toNat (oneV (tkR (tkR (tkR r 1) (Int.toNat (oneV r))) 1)))))])), (AV.own 20480, some (Ob.dls 6 37 (List.length l + 1) (encIm l ++ [PV.str { data := #[] }, PV.sl 0 [], PV.bool (bits BinOp.and IntKind.i64 (oneV (tkR (tkR r 1) (Int.toNat (oneV r)))) 1 == 1), PV.str (tkS (tkR (tkR (tkR (tkR r 1) (Int.toNat (oneV r))) 1) 1) (Int.toNat (oneV (tkR (tkR (tkR r 1) (Int.toNat (oneV r))) 1)))), PV.bool (bits BinOp.and IntKind.i64 (oneV (tkR (tkR r 1) (Int.toNat (oneV r)))) 2 == 2), PV.str { data := #[] }]) true none)), (AV.pv (PV.int IntKind.i64 (IntKind.wrap IntKind.i64 (n - 1))), none)]))
 (none)))
 (none))
 (none))
 (brC (bits BinOp.and IntKind.i64 (oneV (tkR (tkR r 1) (Int.toNat (oneV r)))) 2 == 2)
 (brC (decide (ByteArray.size (tkR (tkR (tkR r 1) (Int.toNat (oneV r))) 1) ≤ 2000000))
 (brC (decide (0 ≤ oneV (tkR (tkR (tkR r 1) (Int.toNat (oneV r))) 1)) && decide (ByteArray.size (tkR (tkR (tkR (tkR r 1) (Int.toNat (oneV r))) 1) 1) ≤ 2000000))
 (brC (decide (List.length l + 1 ≤ 140737488351232) && decide ((List.length l + 1) * 88 ≤ 140737488355328))
 (some (Sum.inl [(AV.pv (PV.str s), none), (AV.ptr 16384 0, some (Ob.box [CV.pv (PV.str (tkR (tkR (tkR (tkR (tkR r 1) (Int.toNat (oneV r))) 1) 1) (Int.toNat (oneV (tkR (tkR (tkR r 1) (Int.toNat (oneV r))) 1))))), CV.pv (PV.bool (tkB (tkR (tkR (tkR (tkR r 1) (Int.toNat (oneV r))) 1) 1) (tkB (tkR (tkR (tkR r 1) (Int.toNat (oneV r))) 1) (tkB (tkR (tkR r 1) (Int.toNat (oneV r))) (tkB (tkR r 1) (tkB r b 1) (Int.toNat (oneV r))) 1) 1) (Int.toNat (oneV (tkR (tkR (tkR r 1) (Int.toNat (oneV r))) 1)))))])), (AV.own 20480, some (Ob.dls 6 37 (List.length l + 1) (encIm l ++ [PV.str { data := #[] }, PV.sl 0 [], PV.bool (bits BinOp.and IntKind.i64 (oneV (tkR (tkR r 1) (Int.toNat (oneV r)))) 1 == 1), PV.str { data := #[] }, PV.bool (bits BinOp.and IntKind.i64 (oneV (tkR (tkR r 1) (Int.toNat (oneV r)))) 2 == 2), PV.str (tkS (tkR (tkR (tkR (tkR r 1) (Int.toNat (oneV r))) 1) 1) (Int.toNat (oneV (tkR (tkR (tkR r 1) (Int.toNat (oneV r))) 1))))]) true none)), (AV.pv (PV.int IntKind.i64 (IntKind.wrap IntKind.i64 (n - 1))), none)]))
 (none))
 (none))
 (none))
 (brC (decide (List.length l + 1 ≤ 140737488351232) && decide ((List.length l + 1) * 88 ≤ 140737488355328))
 (some (Sum.inl [(AV.pv (PV.str s), none), (AV.ptr 16384 0, some (Ob.box [CV.pv (PV.str (tkR (tkR (tkR r 1) (Int.toNat (oneV r))) 1)), CV.pv (PV.bool (tkB (tkR (tkR r 1) (Int.toNat (oneV r))) (tkB (tkR r 1) (tkB r b 1) (Int.toNat (oneV r))) 1))])), (AV.own 20480, some (Ob.dls 6 37 (List.length l + 1) (encIm l ++ [PV.str { data := #[] }, PV.sl 0 [], PV.bool (bits BinOp.and IntKind.i64 (oneV (tkR (tkR r 1) (Int.toNat (oneV r)))) 1 == 1), PV.str { data := #[] }, PV.bool (bits BinOp.and IntKind.i64 (oneV (tkR (tkR r 1) (Int.toNat (oneV r)))) 2 == 2), PV.str { data := #[] }]) true none)), (AV.pv (PV.int IntKind.i64 (IntKind.wrap IntKind.i64 (n - 1))), none)]))
 (none))))
 (none))
 (none)))
 (none))
 (none))
 (some (Sum.inr (Ex.exit 0, [(AV.pv (PV.str s), none), (AV.ptr 16384 0, some (Ob.box [CV.pv (PV.str r), CV.pv (PV.bool b)])), (AV.own 20480, some (Ob.dls 6 37 (List.length l) (encIm l) true none))]))))
 (some (Sum.inr (Ex.exit 0, [(AV.pv (PV.str s), none), (AV.ptr 16384 0, some (Ob.box [CV.pv (PV.str r), CV.pv (PV.bool b)])), (AV.own 20480, some (Ob.dls 6 37 (List.length l) (encIm l) true none))]))) := by kernel_rfl
theorem q_gi_eq (s : ByteArray) : q_gi brC s =
 brC (decide (ByteArray.size s ≤ 2000000))
 (brC (Nat.beq 16384 16384 && Nat.beq 20480 20480 && Nat.beq 37 37 && Nat.beq 0 0 && nilB [] && (decide (oneV s ≤ 0) || tkB s false 1))
 (brC (tkB s false 1)
 (some ((IV.tup [IV.cv (CV.pv PV.nils), IV.cv (CV.pv (PV.bool false))], [])))
 (brC (ByteArray.toList s == [])
 (some ((IV.tup [IV.cv (CV.pv PV.nils), IV.cv (CV.pv (PV.bool false))], [])))
 (brC (isIms (PV.sl 0 []))
 (brC (!ByteArray.toList (putI (asIms (PV.sl 0 []))) == ByteArray.toList s)
 (some ((IV.tup [IV.cv (CV.pv PV.nils), IV.cv (CV.pv (PV.bool false))], [])))
 (some ((IV.tup [IV.cv (CV.lst 6 37 0 [] true), IV.cv (CV.pv (PV.bool true))], []))))
 (none))))
 (brC (Nat.beq 16384 16384 && Nat.beq 20480 20480 && Nat.beq 37 37 && Nat.beq 0 0 && nilB [] && decide (0 ≤ oneV s) && decide (oneV s ≤ 255) && holds (ByteArray.size (tkR s 1) ≤ 2000000))
 (brC (Prod.fst (Prod.snd (rdN (Int.toNat (oneV s)) (tkR s 1) (tkB s false 1) [])))
 (some ((IV.tup [IV.cv (CV.pv PV.nils), IV.cv (CV.pv (PV.bool false))], [])))
 (brC (ByteArray.toList s == [])
 (some ((IV.tup [IV.cv (CV.pv PV.nils), IV.cv (CV.pv (PV.bool false))], [])))
 (brC (isIms (PV.sl (List.length (Prod.snd (Prod.snd (rdN (Int.toNat (oneV s)) (tkR s 1) (tkB s false 1) [])))) (encIm (Prod.snd (Prod.snd (rdN (Int.toNat (oneV s)) (tkR s 1) (tkB s false 1) []))))))
 (brC (!ByteArray.toList (putI (asIms (PV.sl (List.length (Prod.snd (Prod.snd (rdN (Int.toNat (oneV s)) (tkR s 1) (tkB s false 1) [])))) (encIm (Prod.snd (Prod.snd (rdN (Int.toNat (oneV s)) (tkR s 1) (tkB s false 1) []))))))) == ByteArray.toList s)
 (some ((IV.tup [IV.cv (CV.pv PV.nils), IV.cv (CV.pv (PV.bool false))], [])))
 (some ((IV.tup [IV.cv (CV.dls 6 37 (List.length (Prod.snd (Prod.snd (rdN (Int.toNat (oneV s)) (tkR s 1) (tkB s false 1) [])))) (encIm (Prod.snd (Prod.snd (rdN (Int.toNat (oneV s)) (tkR s 1) (tkB s false 1) []))))), IV.cv (CV.pv (PV.bool true))], []))))
 (none))))
 (none)))
 (none) := by kernel_rfl
theorem r_gi0_eq (s : ByteArray) (r : ByteArray) (b : Bool) (n : Int) : r_gi0 brC s r b n =
 brC (decide (n > 0))
 (brC (!b)
 (brC (decide (ByteArray.size r ≤ 2000000))
 (brC (decide (0 ≤ oneV r) && decide (ByteArray.size (tkR r 1) ≤ 2000000))
 (brC (decide (ByteArray.size (tkS (tkR r 1) (Int.toNat (oneV r))) ≤ 2000) && holds (isKy (tkS (tkR r 1) (Int.toNat (oneV r)))))
 (brC (decide (ByteArray.size (tkR (tkR r 1) (Int.toNat (oneV r))) ≤ 2000000))
 (brC (bits BinOp.and IntKind.i64 (oneV (tkR (tkR r 1) (Int.toNat (oneV r)))) 1 == 1)
 (brC (decide (ByteArray.size (tkR (tkR (tkR r 1) (Int.toNat (oneV r))) 1) ≤ 2000000))
 (brC (decide (0 ≤ oneV (tkR (tkR (tkR r 1) (Int.toNat (oneV r))) 1)) && decide (ByteArray.size (tkR (tkR (tkR (tkR r 1) (Int.toNat (oneV r))) 1) 1) ≤ 2000000))
 (brC (bits BinOp.and IntKind.i64 (oneV (tkR (tkR r 1) (Int.toNat (oneV r)))) 2 == 2)
 (brC (decide (ByteArray.size (tkR (tkR (tkR (tkR (tkR r 1) (Int.toNat (oneV r))) 1) 1) (Int.toNat (oneV (tkR (tkR (tkR r 1) (Int.toNat (oneV r))) 1)))) ≤ 2000000))
 (brC (decide (0 ≤ oneV (tkR (tkR (tkR (tkR (tkR r 1) (Int.toNat (oneV r))) 1) 1) (Int.toNat (oneV (tkR (tkR (tkR r 1) (Int.toNat (oneV r))) 1))))) && decide (ByteArray.size (tkR (tkR (tkR (tkR (tkR (tkR r 1) (Int.toNat (oneV r))) 1) 1) (Int.toNat (oneV (tkR (tkR (tkR r 1) (Int.toNat (oneV r))) 1)))) 1) ≤ 2000000))
 (some (Sum.inl [(AV.pv (PV.str s), none), (AV.ptr 16384 0, some (Ob.box [CV.pv (PV.str (tkR (tkR (tkR (tkR (tkR (tkR (tkR r 1) (Int.toNat (oneV r))) 1) 1) (Int.toNat (oneV (tkR (tkR (tkR r 1) (Int.toNat (oneV r))) 1)))) 1) (Int.toNat (oneV (tkR (tkR (tkR (tkR (tkR r 1) (Int.toNat (oneV r))) 1) 1) (Int.toNat (oneV (tkR (tkR (tkR r 1) (Int.toNat (oneV r))) 1)))))))), CV.pv (PV.bool (tkB (tkR (tkR (tkR (tkR (tkR (tkR r 1) (Int.toNat (oneV r))) 1) 1) (Int.toNat (oneV (tkR (tkR (tkR r 1) (Int.toNat (oneV r))) 1)))) 1) (tkB (tkR (tkR (tkR (tkR (tkR r 1) (Int.toNat (oneV r))) 1) 1) (Int.toNat (oneV (tkR (tkR (tkR r 1) (Int.toNat (oneV r))) 1)))) (tkB (tkR (tkR (tkR (tkR r 1) (Int.toNat (oneV r))) 1) 1) (tkB (tkR (tkR (tkR r 1) (Int.toNat (oneV r))) 1) (tkB (tkR (tkR r 1) (Int.toNat (oneV r))) (tkB (tkR r 1) (tkB r b 1) (Int.toNat (oneV r))) 1) 1) (Int.toNat (oneV (tkR (tkR (tkR r 1) (Int.toNat (oneV r))) 1)))) 1) (Int.toNat (oneV (tkR (tkR (tkR (tkR (tkR r 1) (Int.toNat (oneV r))) 1) 1) (Int.toNat (oneV (tkR (tkR (tkR r 1) (Int.toNat (oneV r))) 1))))))))])), (AV.own 20480, some (Ob.dls 6 37 1 [PV.str (Prod.fst (deKy (tkS (tkR r 1) (Int.toNat (oneV r))))), PV.sl (List.length (Prod.snd (deKy (tkS (tkR r 1) (Int.toNat (oneV r)))))) (List.map PV.str (Prod.snd (deKy (tkS (tkR r 1) (Int.toNat (oneV r)))))), PV.bool (bits BinOp.and IntKind.i64 (oneV (tkR (tkR r 1) (Int.toNat (oneV r)))) 1 == 1), PV.str (tkS (tkR (tkR (tkR (tkR r 1) (Int.toNat (oneV r))) 1) 1) (Int.toNat (oneV (tkR (tkR (tkR r 1) (Int.toNat (oneV r))) 1)))), PV.bool (bits BinOp.and IntKind.i64 (oneV (tkR (tkR r 1) (Int.toNat (oneV r)))) 2 == 2), PV.str (tkS (tkR (tkR (tkR (tkR (tkR (tkR r 1) (Int.toNat (oneV r))) 1) 1) (Int.toNat (oneV (tkR (tkR (tkR r 1) (Int.toNat (oneV r))) 1)))) 1) (Int.toNat (oneV (tkR (tkR (tkR (tkR (tkR r 1) (Int.toNat (oneV r))) 1) 1) (Int.toNat (oneV (tkR (tkR (tkR r 1) (Int.toNat (oneV r))) 1)))))))] true none)), (AV.pv (PV.int IntKind.i64 (IntKind.wrap IntKind.i64 (n - 1))), none)]))
 (none))
 (none))
 (some (Sum.inl [(AV.pv (PV.str s), none), (AV.ptr 16384 0, some (Ob.box [CV.pv (PV.str (tkR (tkR (tkR (tkR (tkR r 1) (Int.toNat (oneV r))) 1) 1) (Int.toNat (oneV (tkR (tkR (tkR r 1) (Int.toNat (oneV r))) 1))))), CV.pv (PV.bool (tkB (tkR (tkR (tkR (tkR r 1) (Int.toNat (oneV r))) 1) 1) (tkB (tkR (tkR (tkR r 1) (Int.toNat (oneV r))) 1) (tkB (tkR (tkR r 1) (Int.toNat (oneV r))) (tkB (tkR r 1) (tkB r b 1) (Int.toNat (oneV r))) 1) 1) (Int.toNat (oneV (tkR (tkR (tkR r 1) (Int.toNat (oneV r))) 1)))))])), (AV.own 20480, some (Ob.dls 6 37 1 [PV.str (Prod.fst (deKy (tkS (tkR r 1) (Int.toNat (oneV r))))), PV.sl (List.length (Prod.snd (deKy (tkS (tkR r 1) (Int.toNat (oneV r)))))) (List.map PV.str (Prod.snd (deKy (tkS (tkR r 1) (Int.toNat (oneV r)))))), PV.bool (bits BinOp.and IntKind.i64 (oneV (tkR (tkR r 1) (Int.toNat (oneV r)))) 1 == 1), PV.str (tkS (tkR (tkR (tkR (tkR r 1) (Int.toNat (oneV r))) 1) 1) (Int.toNat (oneV (tkR (tkR (tkR r 1) (Int.toNat (oneV r))) 1)))), PV.bool (bits BinOp.and IntKind.i64 (oneV (tkR (tkR r 1) (Int.toNat (oneV r)))) 2 == 2), PV.str { data := #[] }] true none)), (AV.pv (PV.int IntKind.i64 (IntKind.wrap IntKind.i64 (n - 1))), none)])))
 (none))
 (none))
 (brC (bits BinOp.and IntKind.i64 (oneV (tkR (tkR r 1) (Int.toNat (oneV r)))) 2 == 2)
 (brC (decide (ByteArray.size (tkR (tkR (tkR r 1) (Int.toNat (oneV r))) 1) ≤ 2000000))
 (brC (decide (0 ≤ oneV (tkR (tkR (tkR r 1) (Int.toNat (oneV r))) 1)) && decide (ByteArray.size (tkR (tkR (tkR (tkR r 1) (Int.toNat (oneV r))) 1) 1) ≤ 2000000))
 (some (Sum.inl [(AV.pv (PV.str s), none), (AV.ptr 16384 0, some (Ob.box [CV.pv (PV.str (tkR (tkR (tkR (tkR (tkR r 1) (Int.toNat (oneV r))) 1) 1) (Int.toNat (oneV (tkR (tkR (tkR r 1) (Int.toNat (oneV r))) 1))))), CV.pv (PV.bool (tkB (tkR (tkR (tkR (tkR r 1) (Int.toNat (oneV r))) 1) 1) (tkB (tkR (tkR (tkR r 1) (Int.toNat (oneV r))) 1) (tkB (tkR (tkR r 1) (Int.toNat (oneV r))) (tkB (tkR r 1) (tkB r b 1) (Int.toNat (oneV r))) 1) 1) (Int.toNat (oneV (tkR (tkR (tkR r 1) (Int.toNat (oneV r))) 1)))))])), (AV.own 20480, some (Ob.dls 6 37 1 [PV.str (Prod.fst (deKy (tkS (tkR r 1) (Int.toNat (oneV r))))), PV.sl (List.length (Prod.snd (deKy (tkS (tkR r 1) (Int.toNat (oneV r)))))) (List.map PV.str (Prod.snd (deKy (tkS (tkR r 1) (Int.toNat (oneV r)))))), PV.bool (bits BinOp.and IntKind.i64 (oneV (tkR (tkR r 1) (Int.toNat (oneV r)))) 1 == 1), PV.str { data := #[] }, PV.bool (bits BinOp.and IntKind.i64 (oneV (tkR (tkR r 1) (Int.toNat (oneV r)))) 2 == 2), PV.str (tkS (tkR (tkR (tkR (tkR r 1) (Int.toNat (oneV r))) 1) 1) (Int.toNat (oneV (tkR (tkR (tkR r 1) (Int.toNat (oneV r))) 1))))] true none)), (AV.pv (PV.int IntKind.i64 (IntKind.wrap IntKind.i64 (n - 1))), none)]))
 (none))
 (none))
 (some (Sum.inl [(AV.pv (PV.str s), none), (AV.ptr 16384 0, some (Ob.box [CV.pv (PV.str (tkR (tkR (tkR r 1) (Int.toNat (oneV r))) 1)), CV.pv (PV.bool (tkB (tkR (tkR r 1) (Int.toNat (oneV r))) (tkB (tkR r 1) (tkB r b 1) (Int.toNat (oneV r))) 1))])), (AV.own 20480, some (Ob.dls 6 37 1 [PV.str (Prod.fst (deKy (tkS (tkR r 1) (Int.toNat (oneV r))))), PV.sl (List.length (Prod.snd (deKy (tkS (tkR r 1) (Int.toNat (oneV r)))))) (List.map PV.str (Prod.snd (deKy (tkS (tkR r 1) (Int.toNat (oneV r)))))), PV.bool (bits BinOp.and IntKind.i64 (oneV (tkR (tkR r 1) (Int.toNat (oneV r)))) 1 == 1), PV.str { data := #[] }, PV.bool (bits BinOp.and IntKind.i64 (oneV (tkR (tkR r 1) (Int.toNat (oneV r)))) 2 == 2), PV.str { data := #[] }] true none)), (AV.pv (PV.int IntKind.i64 (IntKind.wrap IntKind.i64 (n - 1))), none)]))))
 (none))
 (brC (decide (ByteArray.size (tkS (tkR r 1) (Int.toNat (oneV r))) ≤ 2000))
 (brC (decide (ByteArray.size (tkR (tkR r 1) (Int.toNat (oneV r))) ≤ 2000000))
 (brC (bits BinOp.and IntKind.i64 (oneV (tkR (tkR r 1) (Int.toNat (oneV r)))) 1 == 1)
 (brC (decide (ByteArray.size (tkR (tkR (tkR r 1) (Int.toNat (oneV r))) 1) ≤ 2000000))
 (brC (decide (0 ≤ oneV (tkR (tkR (tkR r 1) (Int.toNat (oneV r))) 1)) && decide (ByteArray.size (tkR (tkR (tkR (tkR r 1) (Int.toNat (oneV r))) 1) 1) ≤ 2000000))
 (brC (bits BinOp.and IntKind.i64 (oneV (tkR (tkR r 1) (Int.toNat (oneV r)))) 2 == 2)
 (brC (decide (ByteArray.size (tkR (tkR (tkR (tkR (tkR r 1) (Int.toNat (oneV r))) 1) 1) (Int.toNat (oneV (tkR (tkR (tkR r 1) (Int.toNat (oneV r))) 1)))) ≤ 2000000))
 (brC (decide (0 ≤ oneV (tkR (tkR (tkR (tkR (tkR r 1) (Int.toNat (oneV r))) 1) 1) (Int.toNat (oneV (tkR (tkR (tkR r 1) (Int.toNat (oneV r))) 1))))) && decide (ByteArray.size (tkR (tkR (tkR (tkR (tkR (tkR r 1) (Int.toNat (oneV r))) 1) 1) (Int.toNat (oneV (tkR (tkR (tkR r 1) (Int.toNat (oneV r))) 1)))) 1) ≤ 2000000))
 (some (Sum.inl [(AV.pv (PV.str s), none), (AV.ptr 16384 0, some (Ob.box [CV.pv (PV.str (tkR (tkR (tkR (tkR (tkR (tkR (tkR r 1) (Int.toNat (oneV r))) 1) 1) (Int.toNat (oneV (tkR (tkR (tkR r 1) (Int.toNat (oneV r))) 1)))) 1) (Int.toNat (oneV (tkR (tkR (tkR (tkR (tkR r 1) (Int.toNat (oneV r))) 1) 1) (Int.toNat (oneV (tkR (tkR (tkR r 1) (Int.toNat (oneV r))) 1)))))))), CV.pv (PV.bool (tkB (tkR (tkR (tkR (tkR (tkR (tkR r 1) (Int.toNat (oneV r))) 1) 1) (Int.toNat (oneV (tkR (tkR (tkR r 1) (Int.toNat (oneV r))) 1)))) 1) (tkB (tkR (tkR (tkR (tkR (tkR r 1) (Int.toNat (oneV r))) 1) 1) (Int.toNat (oneV (tkR (tkR (tkR r 1) (Int.toNat (oneV r))) 1)))) (tkB (tkR (tkR (tkR (tkR r 1) (Int.toNat (oneV r))) 1) 1) (tkB (tkR (tkR (tkR r 1) (Int.toNat (oneV r))) 1) (tkB (tkR (tkR r 1) (Int.toNat (oneV r))) (tkB (tkR r 1) (tkB r b 1) (Int.toNat (oneV r))) 1) 1) (Int.toNat (oneV (tkR (tkR (tkR r 1) (Int.toNat (oneV r))) 1)))) 1) (Int.toNat (oneV (tkR (tkR (tkR (tkR (tkR r 1) (Int.toNat (oneV r))) 1) 1) (Int.toNat (oneV (tkR (tkR (tkR r 1) (Int.toNat (oneV r))) 1))))))))])), (AV.own 20480, some (Ob.dls 6 37 1 [PV.str { data := #[] }, PV.sl 0 [], PV.bool (bits BinOp.and IntKind.i64 (oneV (tkR (tkR r 1) (Int.toNat (oneV r)))) 1 == 1), PV.str (tkS (tkR (tkR (tkR (tkR r 1) (Int.toNat (oneV r))) 1) 1) (Int.toNat (oneV (tkR (tkR (tkR r 1) (Int.toNat (oneV r))) 1)))), PV.bool (bits BinOp.and IntKind.i64 (oneV (tkR (tkR r 1) (Int.toNat (oneV r)))) 2 == 2), PV.str (tkS (tkR (tkR (tkR (tkR (tkR (tkR r 1) (Int.toNat (oneV r))) 1) 1) (Int.toNat (oneV (tkR (tkR (tkR r 1) (Int.toNat (oneV r))) 1)))) 1) (Int.toNat (oneV (tkR (tkR (tkR (tkR (tkR r 1) (Int.toNat (oneV r))) 1) 1) (Int.toNat (oneV (tkR (tkR (tkR r 1) (Int.toNat (oneV r))) 1)))))))] true none)), (AV.pv (PV.int IntKind.i64 (IntKind.wrap IntKind.i64 (n - 1))), none)]))
 (none))
 (none))
 (some (Sum.inl [(AV.pv (PV.str s), none), (AV.ptr 16384 0, some (Ob.box [CV.pv (PV.str (tkR (tkR (tkR (tkR (tkR r 1) (Int.toNat (oneV r))) 1) 1) (Int.toNat (oneV (tkR (tkR (tkR r 1) (Int.toNat (oneV r))) 1))))), CV.pv (PV.bool (tkB (tkR (tkR (tkR (tkR r 1) (Int.toNat (oneV r))) 1) 1) (tkB (tkR (tkR (tkR r 1) (Int.toNat (oneV r))) 1) (tkB (tkR (tkR r 1) (Int.toNat (oneV r))) (tkB (tkR r 1) (tkB r b 1) (Int.toNat (oneV r))) 1) 1) (Int.toNat (oneV (tkR (tkR (tkR r 1) (Int.toNat (oneV r))) 1)))))])), (AV.own 20480, some (Ob.dls 6 37 1 [PV.str { data := #[] }, PV.sl 0 [], PV.bool (bits BinOp.and IntKind.i64 (oneV (tkR (tkR r 1) (Int.toNat (oneV r)))) 1 == 1), PV.str (tkS (tkR (tkR (tkR (tkR r 1) (Int.toNat (oneV r))) 1) 1) (Int.toNat (oneV (tkR (tkR (tkR r 1) (Int.toNat (oneV r))) 1)))), PV.bool (bits BinOp.and IntKind.i64 (oneV (tkR (tkR r 1) (Int.toNat (oneV r)))) 2 == 2), PV.str { data := #[] }] true none)), (AV.pv (PV.int IntKind.i64 (IntKind.wrap IntKind.i64 (n - 1))), none)])))
 (none))
 (none))
 (brC (bits BinOp.and IntKind.i64 (oneV (tkR (tkR r 1) (Int.toNat (oneV r)))) 2 == 2)
 (brC (decide (ByteArray.size (tkR (tkR (tkR r 1) (Int.toNat (oneV r))) 1) ≤ 2000000))
 (brC (decide (0 ≤ oneV (tkR (tkR (tkR r 1) (Int.toNat (oneV r))) 1)) && decide (ByteArray.size (tkR (tkR (tkR (tkR r 1) (Int.toNat (oneV r))) 1) 1) ≤ 2000000))
 (some (Sum.inl [(AV.pv (PV.str s), none), (AV.ptr 16384 0, some (Ob.box [CV.pv (PV.str (tkR (tkR (tkR (tkR (tkR r 1) (Int.toNat (oneV r))) 1) 1) (Int.toNat (oneV (tkR (tkR (tkR r 1) (Int.toNat (oneV r))) 1))))), CV.pv (PV.bool (tkB (tkR (tkR (tkR (tkR r 1) (Int.toNat (oneV r))) 1) 1) (tkB (tkR (tkR (tkR r 1) (Int.toNat (oneV r))) 1) (tkB (tkR (tkR r 1) (Int.toNat (oneV r))) (tkB (tkR r 1) (tkB r b 1) (Int.toNat (oneV r))) 1) 1) (Int.toNat (oneV (tkR (tkR (tkR r 1) (Int.toNat (oneV r))) 1)))))])), (AV.own 20480, some (Ob.dls 6 37 1 [PV.str { data := #[] }, PV.sl 0 [], PV.bool (bits BinOp.and IntKind.i64 (oneV (tkR (tkR r 1) (Int.toNat (oneV r)))) 1 == 1), PV.str { data := #[] }, PV.bool (bits BinOp.and IntKind.i64 (oneV (tkR (tkR r 1) (Int.toNat (oneV r)))) 2 == 2), PV.str (tkS (tkR (tkR (tkR (tkR r 1) (Int.toNat (oneV r))) 1) 1) (Int.toNat (oneV (tkR (tkR (tkR r 1) (Int.toNat (oneV r))) 1))))] true none)), (AV.pv (PV.int IntKind.i64 (IntKind.wrap IntKind.i64 (n - 1))), none)]))
 (none))
 (none))
 (some (Sum.inl [(AV.pv (PV.str s), none), (AV.ptr 16384 0, some (Ob.box [CV.pv (PV.str (tkR (tkR (tkR r 1) (Int.toNat (oneV r))) 1)), CV.pv (PV.bool (tkB (tkR (tkR r 1) (Int.toNat (oneV r))) (tkB (tkR r 1) (tkB r b 1) (Int.toNat (oneV r))) 1))])), (AV.own 20480, some (Ob.dls 6 37 1 [PV.str { data := #[] }, PV.sl 0 [], PV.bool (bits BinOp.and IntKind.i64 (oneV (tkR (tkR r 1) (Int.toNat (oneV r)))) 1 == 1), PV.str { data := #[] }, PV.bool (bits BinOp.and IntKind.i64 (oneV (tkR (tkR r 1) (Int.toNat (oneV r)))) 2 == 2), PV.str { data := #[] }] true none)), (AV.pv (PV.int IntKind.i64 (IntKind.wrap IntKind.i64 (n - 1))), none)]))))
 (none))
 (none)))
 (none))
 (none))
 (some (Sum.inr (Ex.exit 0, [(AV.pv (PV.str s), none), (AV.ptr 16384 0, some (Ob.box [CV.pv (PV.str r), CV.pv (PV.bool b)])), (AV.own 20480, some (Ob.lst 6 37 0 [] true))]))))
 (some (Sum.inr (Ex.exit 0, [(AV.pv (PV.str s), none), (AV.ptr 16384 0, some (Ob.box [CV.pv (PV.str r), CV.pv (PV.bool b)])), (AV.own 20480, some (Ob.lst 6 37 0 [] true))]))) := by kernel_rfl
end
section
open Go.RowKit
set_option linter.unusedVariables false
set_option linter.unusedSimpArgs false
set_option maxRecDepth 100000
theorem tkS_sz (r : ByteArray) (n : Nat) : (tkS r n).size ≤ n := by
  unfold tkS
  by_cases h : n ≤ r.size
  · rw [if_pos h, ByteArray.size_extract]; omega
  · rw [if_neg h]; exact Nat.zero_le _
theorem tkR_sz (r : ByteArray) (n : Nat) : (tkR r n).size ≤ r.size := by
  unfold tkR
  by_cases h : n ≤ r.size
  · rw [if_pos h, ByteArray.size_extract]; omega
  · rw [if_neg h]; exact Nat.le_refl _
theorem oneV_rng (r : ByteArray) : 0 ≤ oneV r ∧ oneV r ≤ 255 := by
  unfold oneV numV
  have h1 := numL_lt (tkS r 1).data.toList
  have h2 := tkS_sz r 1
  rw [size_len] at h2
  have h3 : 256 ^ (tkS r 1).data.toList.length ≤ 256 ^ 1 := Nat.pow_le_pow_right (by decide) h2
  omega
theorem t1R_sz (r : ByteArray) : (t1R r).size ≤ r.size := Nat.le_trans (tkR_sz _ _) (tkR_sz _ _)
theorem t1S_sz (r : ByteArray) : (t1S r).size ≤ 255 := by
  have := tkS_sz (tkR r 1) (oneV r).toNat
  have h := oneV_rng r
  unfold t1S
  omega
theorem rd1_sz (r : ByteArray) (b : Bool) : (rd1 r b).r.size ≤ r.size := by
  have h1 := t1R_sz r
  have h2 : (r3 r).size ≤ r.size := Nat.le_trans (tkR_sz _ _) h1
  have h3 := t1R_sz (r3 r)
  have h4 := t1R_sz (t1R (r3 r))
  unfold rd1
  dsimp only
  cases bit (flI r) 1 <;> cases bit (flI r) 2 <;> simp only [cond_true, cond_false] <;> omega
theorem ok_kdb0 : EntriesOk Tryz.prog kdb0 := ⟨ok_take, ok_rone, ok_KeyPl, ok_putIms, trivial⟩
theorem encIm_one (x : ImT) : encIm [x] = [PV.str x.name, PV.sl x.subs.length (x.subs.map PV.str), PV.bool x.had, PV.str x.was, PV.bool x.has, PV.str x.is] := rfl
theorem gi_step (s r : ByteArray) (l : List ImT) (m : Nat) (hr : r.size ≤ 2000000) (hl : l.length ≤ 300) (hm : m ≤ 300) :
    rdB brC Tryz.prog kdb0 lp_gi LO_gi Tryz.f5 3 [] [aS s, aRd 4 r false, aIs 5 l, aI ((m + 1 : Nat) : Int)] = some (.inl [aS s, aRd 4 (rd1 r false).r (rd1 r false).b, aIs 5 (l ++ [(rd1 r false).im]), aI m]) := by
  have tree := r_gi_eq s r false l ((m + 1 : Nat) : Int)
  have w1 : IntKind.wrap .i64 (((m + 1 : Nat) : Int) - 1) = (m : Int) := by rw [wrapI (by omega) (by omega)]; omega
  have o1 := oneV_rng r
  have o2 := oneV_rng (r3 r)
  have o3 := oneV_rng (t1R (r3 r))
  have z1 := tkR_sz r 1
  have z2 := t1R_sz r
  have z3 : (r3 r).size ≤ r.size := Nat.le_trans (tkR_sz _ _) z2
  have z4 := tkR_sz (r3 r) 1
  have z5 := t1R_sz (r3 r)
  have z6 := tkR_sz (t1R (r3 r)) 1
  have z7 := t1S_sz r
  refine tree.trans ?_
  rw [w1]
  change brC _ (brC _ (brC _ (brC (decide (0 ≤ oneV r) && decide (ByteArray.size (tkR r 1) ≤ 2000000)) (brC (decide (ByteArray.size (t1S r) ≤ 2000) && holds (isKy (t1S r))) _ _) _) _) _) _ = _
  rw [dT (show ((m + 1 : Nat) : Int) > 0 by omega), dT hr, dT o1.1, dT (show (tkR r 1).size ≤ 2000000 by omega), dT (show (t1S r).size ≤ 2000 by omega)]
  have hA : (decide (l.length + 1 ≤ 140737488351232) && decide ((l.length + 1) * 88 ≤ 140737488355328)) = true := by
    rw [decide_eq_true (show l.length + 1 ≤ 140737488351232 by omega), decide_eq_true (show (l.length + 1) * 88 ≤ 140737488355328 by omega)]
    rfl
  rw [hA]
  have y2 : decide ((t1R r).size ≤ 2000000) = true := decide_eq_true (by omega)
  have y3 : decide ((r3 r).size ≤ 2000000) = true := decide_eq_true (by omega)
  have y4 : decide ((tkR (r3 r) 1).size ≤ 2000000) = true := decide_eq_true (by omega)
  have y5 : decide ((t1R (r3 r)).size ≤ 2000000) = true := decide_eq_true (by omega)
  have y6 : decide ((tkR (t1R (r3 r)) 1).size ≤ 2000000) = true := decide_eq_true (by omega)
  have x2 : decide (0 ≤ oneV (r3 r)) = true := decide_eq_true o2.1
  have x3 : decide (0 ≤ oneV (t1R (r3 r))) = true := decide_eq_true o3.1
  unfold t1R at y2 y5 y6 x3
  unfold r3 t1R at y3 y4 y5 y6 x2 x3
  have y7 : decide ((tkS (tkR r 1) (oneV r).toNat).size ≤ 2000) = true := decide_eq_true (show (t1S r).size ≤ 2000 by omega)
  rw [y2, y3, y4, y5, y6, x2, x3, y7]
  unfold aIs
  rw [encIm_app, List.length_append, encIm_one, List.length_singleton]
  unfold rd1 kName kSubs
  simp only [bit, flI, b3, t1B, t1S, r3, t1R]
  clear tree o1 o2 o3 z1 z2 z3 z4 z5 z6 z7 y2 y3 y4 y5 y6 y7 x2 x3
  cases hk : holds (isKy (tkS (tkR r 1) (oneV r).toNat)) <;> cases h1 : (bits BinOp.and IntKind.i64 (oneV (tkR (tkR r 1) (oneV r).toNat)) 1 == 1) <;> cases h2 : (bits BinOp.and IntKind.i64 (oneV (tkR (tkR r 1) (oneV r).toNat)) 2 == 2) <;> simp only [Bool.not_false, Bool.and_true, Bool.and_false, brC, cond_true, cond_false] <;> rfl
theorem gi0_step (s r : ByteArray) (m : Nat) (hr : r.size ≤ 2000000) (hm : m ≤ 300) :
    rdB brC Tryz.prog kdb0 lp_gi LO_gi Tryz.f5 3 [] [aS s, aRd 4 r false, aI0 5, aI ((m + 1 : Nat) : Int)] = some (.inl [aS s, aRd 4 (rd1 r false).r (rd1 r false).b, aIs 5 [(rd1 r false).im], aI m]) := by
  have tree := r_gi0_eq s r false ((m + 1 : Nat) : Int)
  have w1 : IntKind.wrap .i64 (((m + 1 : Nat) : Int) - 1) = (m : Int) := by rw [wrapI (by omega) (by omega)]; omega
  have o1 := oneV_rng r
  have o2 := oneV_rng (r3 r)
  have o3 := oneV_rng (t1R (r3 r))
  have z1 := tkR_sz r 1
  have z2 := t1R_sz r
  have z3 : (r3 r).size ≤ r.size := Nat.le_trans (tkR_sz _ _) z2
  have z4 := tkR_sz (r3 r) 1
  have z5 := t1R_sz (r3 r)
  have z6 := tkR_sz (t1R (r3 r)) 1
  have z7 := t1S_sz r
  refine tree.trans ?_
  rw [w1]
  change brC _ (brC _ (brC _ (brC (decide (0 ≤ oneV r) && decide (ByteArray.size (tkR r 1) ≤ 2000000)) (brC (decide (ByteArray.size (t1S r) ≤ 2000) && holds (isKy (t1S r))) _ _) _) _) _) _ = _
  rw [dT (show ((m + 1 : Nat) : Int) > 0 by omega), dT hr, dT o1.1, dT (show (tkR r 1).size ≤ 2000000 by omega), dT (show (t1S r).size ≤ 2000 by omega)]
  have y2 : decide ((t1R r).size ≤ 2000000) = true := decide_eq_true (by omega)
  have y3 : decide ((r3 r).size ≤ 2000000) = true := decide_eq_true (by omega)
  have y4 : decide ((tkR (r3 r) 1).size ≤ 2000000) = true := decide_eq_true (by omega)
  have y5 : decide ((t1R (r3 r)).size ≤ 2000000) = true := decide_eq_true (by omega)
  have y6 : decide ((tkR (t1R (r3 r)) 1).size ≤ 2000000) = true := decide_eq_true (by omega)
  have x2 : decide (0 ≤ oneV (r3 r)) = true := decide_eq_true o2.1
  have x3 : decide (0 ≤ oneV (t1R (r3 r))) = true := decide_eq_true o3.1
  unfold t1R at y2 y5 y6 x3
  unfold r3 t1R at y3 y4 y5 y6 x2 x3
  have y7 : decide ((tkS (tkR r 1) (oneV r).toNat).size ≤ 2000) = true := decide_eq_true (show (t1S r).size ≤ 2000 by omega)
  rw [y2, y3, y4, y5, y6, x2, x3, y7]
  unfold aIs
  rw [encIm_one, List.length_singleton]
  unfold rd1 kName kSubs
  simp only [bit, flI, b3, t1B, t1S, r3, t1R]
  clear tree o1 o2 o3 z1 z2 z3 z4 z5 z6 z7 y2 y3 y4 y5 y6 y7 x2 x3
  cases hk : holds (isKy (tkS (tkR r 1) (oneV r).toNat)) <;> cases h1 : (bits BinOp.and IntKind.i64 (oneV (tkR (tkR r 1) (oneV r).toNat)) 1 == 1) <;> cases h2 : (bits BinOp.and IntKind.i64 (oneV (tkR (tkR r 1) (oneV r).toNat)) 2 == 2) <;> simp only [Bool.not_false, Bool.and_true, Bool.and_false, brC, cond_true, cond_false] <;> rfl
theorem gi_loop (s : ByteArray) : ∀ (m : Nat) (r : ByteArray) (b : Bool) (l : List ImT), r.size ≤ 2000000 → l.length + m ≤ 300 →
    LoopsTo (rdB brC Tryz.prog kdb0 lp_gi LO_gi Tryz.f5 3 []) [aS s, aRd 4 r b, aIs 5 l, aI m] (.exit 0, [aS s, aRd 4 (rdN m r b l).1 (rdN m r b l).2.1, aIs 5 (rdN m r b l).2.2]) := by
  intro m
  induction m with
  | zero =>
    intro r b l hr hl
    refine .done _ _ ((r_gi_eq s r b l _).trans ?_)
    rw [dF (show ¬ ((0 : Nat) : Int) > 0 by omega)]
    rfl
  | succ m ih =>
    intro r b l hr hl
    unfold rdN
    cases b with
    | true =>
      rw [if_pos rfl]
      refine .done _ _ ((r_gi_eq s r true l _).trans ?_)
      rw [dT (show ((m + 1 : Nat) : Int) > 0 by omega)]
      rfl
    | false =>
      rw [if_neg Bool.false_ne_true]
      have := ih (rd1 r false).r (rd1 r false).b (l ++ [(rd1 r false).im]) (Nat.le_trans (rd1_sz r false) hr) (by rw [List.length_append, List.length_singleton]; omega)
      exact .step _ _ _ (gi_step s r l m hr (by omega) (by omega)) this
theorem gi0_loop (s r : ByteArray) (m : Nat) (hr : r.size ≤ 2000000) (hm : m + 1 ≤ 255) :
    LoopsTo (rdB brC Tryz.prog kdb0 lp_gi LO_gi Tryz.f5 3 []) [aS s, aRd 4 r false, aI0 5, aI ((m + 1 : Nat) : Int)] (.exit 0, [aS s, aRd 4 (rdN (m + 1) r false []).1 (rdN (m + 1) r false []).2.1, aIs 5 (rdN (m + 1) r false []).2.2]) := by
  have := gi_loop s m (rd1 r false).r (rd1 r false).b [(rd1 r false).im] (Nat.le_trans (rd1_sz r false) hr) (by show 1 + m ≤ 300; omega)
  have e : rdN (m + 1) r false [] = rdN m (rd1 r false).r (rd1 r false).b [(rd1 r false).im] := by
    conv => lhs; unfold rdN
    rw [if_neg Bool.false_ne_true]
    rfl
  rw [e]
  exact .step _ _ _ (gi0_step s r m hr (by omega)) this
theorem tkS_app (a r : ByteArray) {n : Nat} (h : n = a.size) : tkS (a ++ r) n = a := by
  unfold tkS
  rw [if_pos (by rw [ByteArray.size_append]; omega), h]
  exact ByteArray.extract_append_eq_left rfl
theorem tkR_app (a r : ByteArray) {n : Nat} (h : n = a.size) : tkR (a ++ r) n = r := by
  unfold tkR
  rw [if_pos (by rw [ByteArray.size_append]; omega), h, ByteArray.size_append]
  exact ByteArray.extract_append_eq_right rfl rfl
theorem tkB_app (a r : ByteArray) (b : Bool) {n : Nat} (h : n = a.size) : tkB (a ++ r) b n = b := by
  unfold tkB
  rw [if_pos (by rw [ByteArray.size_append]; omega)]
theorem oneV_lit (n : Nat) (r : ByteArray) (h : n ≤ 255) : oneV (litV (n : Int) 1 ++ r) = n := by
  unfold oneV
  rw [tkS_app _ _ (litV_size _ _).symm, litV_eq]
  show ((numL [UInt8.ofNat n] : Nat) : Int) = n
  show (((UInt8.ofNat n).toNat + 256 * 0 : Nat) : Int) = n
  rw [UInt8.toNat_ofNat_of_lt' (by simpa using (by omega : n < 256))]
  omega
theorem t1_short (a r : ByteArray) (h : a.size ≤ 255) : t1S (shortV a ++ r) = a ∧ t1R (shortV a ++ r) = r ∧ ∀ b, t1B (shortV a ++ r) b = b := by
  have e : shortV a ++ r = litV (a.size : Int) 1 ++ (a ++ r) := by rw [shortV_eq, ByteArray.append_assoc]
  have e1 := oneV_lit a.size (a ++ r) h
  have e2 : tkR (litV (a.size : Int) 1 ++ (a ++ r)) 1 = a ++ r := tkR_app _ _ (litV_size _ _).symm
  unfold t1S t1R t1B
  rw [e, e1, e2, Int.toNat_natCast]
  exact ⟨tkS_app _ _ rfl, tkR_app _ _ rfl, fun b => by rw [tkB_app _ _ _ (litV_size _ _).symm, tkB_app _ _ _ rfl]⟩
theorem encL_small (xs : List ByteArray) (h4 : xs.length ≤ 4) (h24 : ∀ s ∈ xs, s.size ≤ 24) : (encL xs).length ≤ 240 := by
  have := encL_len xs h24
  omega
theorem kind_nat (i : ImT) : ∃ k : Nat, kindI i = k ∧ k ≤ 3 ∧ bit (k : Int) 1 = i.had ∧ bit (k : Int) 2 = i.has := by
  unfold kindI
  cases i.had <;> cases i.has
  · exact ⟨0, rfl, by decide, by decide, by decide⟩
  · exact ⟨2, rfl, by decide, by decide, by decide⟩
  · exact ⟨1, rfl, by decide, by decide, by decide⟩
  · exact ⟨3, rfl, by decide, by decide, by decide⟩
theorem sEq_empty {s : ByteArray} (h : sEq s ⟨#[]⟩ = true) : s = ⟨#[]⟩ := sEq_iff.1 h
theorem rd1_im (i : ImT) (r : ByteArray) (h : imgB i = true) : rd1 (imV i ++ r) false = ⟨r, false, i⟩ := by
  obtain ⟨hp, hw, hi⟩ := imgB_inv h
  have hke : keyV2 i.name i.subs = bs (keyL i.name i.subs) := by rw [keyV2_eq, if_pos hp]
  have hkz : (keyV2 i.name i.subs).size ≤ 255 := by
    rw [hke, bs_len]
    obtain ⟨h1, h2⟩ := plcB_inv hp
    obtain ⟨h3, h4⟩ := subsB_inv h2
    have h6 := nameB_le h1
    have h5 := encL_small i.subs h3 h4
    rw [size_len] at h6
    unfold keyL
    rw [List.length_append, List.length_cons]
    omega
  obtain ⟨k, hk, hk3, hb1, hb2⟩ := kind_nat i
  have e : imV i ++ r = shortV (keyV2 i.name i.subs) ++ (litV (k : Int) 1 ++ (valsI i ++ r)) := by
    rw [imV_eq, hk, ByteArray.append_assoc, ByteArray.append_assoc]
  obtain ⟨t1, t2, t3⟩ := t1_short (keyV2 i.name i.subs) (litV (k : Int) 1 ++ (valsI i ++ r)) hkz
  have hdat : (bs (keyL i.name i.subs)).data.toList = keyL i.name i.subs := bs_data _
  have hky : holds (isKy (bs (keyL i.name i.subs))) = true := holds_mk ⟨(i.name, i.subs), hdat, hp⟩
  have hde : deKy (bs (keyL i.name i.subs)) = (i.name, i.subs) := deKy_eq hdat hp
  have o1 : flI (imV i ++ r) = k := by unfold flI; rw [e, t2, oneV_lit k _ (by omega)]
  have q1 : r3 (imV i ++ r) = valsI i ++ r := by unfold r3; rw [e, t2, tkR_app _ _ (litV_size _ _).symm]
  have q2 : b3 (imV i ++ r) false = false := by unfold b3; rw [e, t2, t3, tkB_app _ _ _ (litV_size _ _).symm]
  have q3 : kName (t1S (imV i ++ r)) = i.name := by unfold kName; rw [e, t1, hke, hky, cond_true, hde]
  have q4 : kSubs (t1S (imV i ++ r)) = i.subs := by unfold kSubs; rw [e, t1, hke, hky, cond_true, hde]
  unfold rd1
  rw [o1, hb1, hb2, q1, q2, q3, q4]
  unfold imgB at h
  simp only [Bool.and_eq_true, decide_eq_true_eq] at h
  obtain ⟨⟨⟨⟨⟨_, _⟩, _⟩, h5⟩, h6⟩, _⟩ := h
  unfold valsI
  obtain ⟨nm, sb, hd, ws, hs, is⟩ := i
  dsimp only at h5 h6 hw hi ⊢
  cases hd with
  | true =>
    cases hs with
    | true =>
      simp only [cond_true, if_true]
      obtain ⟨a1, a2, a3⟩ := t1_short ws (shortV is ++ r) (by omega)
      obtain ⟨c1, c2, c3⟩ := t1_short is r (by omega)
      rw [ByteArray.append_assoc, a1, a2, a3, c1, c2, c3]
    | false =>
      simp only [cond_true, cond_false, if_true, if_false, Bool.false_eq_true]
      obtain ⟨a1, a2, a3⟩ := t1_short ws r (by omega)
      have : is = ⟨#[]⟩ := sEq_empty (by simpa using h6)
      rw [app_nil, a1, a2, a3, this]
  | false =>
    have hw0 : ws = ⟨#[]⟩ := sEq_empty (by simpa using h5)
    cases hs with
    | true =>
      simp only [cond_true, cond_false, if_true, if_false, Bool.false_eq_true]
      obtain ⟨c1, c2, c3⟩ := t1_short is r (by omega)
      rw [nil_app, c1, c2, c3, hw0]
    | false =>
      simp only [cond_true, cond_false, if_true, if_false, Bool.false_eq_true]
      have : is = ⟨#[]⟩ := sEq_empty (by simpa using h6)
      rw [nil_app, nil_app, hw0, this]
theorem imsT_app : ∀ (l : List ImT) (s : ByteArray), imsT s l = s ++ imsT ⟨#[]⟩ l
  | [], s => by unfold imsT; rw [app_nil]
  | x :: t, s => by
    unfold imsT
    rw [imsT_app t (s ++ imV x), imsT_app t (⟨#[]⟩ ++ imV x), nil_app, ByteArray.append_assoc]
theorem rdN_ims : ∀ (l pre : List ImT) (r : ByteArray), (∀ i ∈ l, imgB i = true) → rdN l.length (imsT ⟨#[]⟩ l ++ r) false pre = (r, false, pre ++ l)
  | [], pre, r, _ => by
    unfold imsT
    rw [nil_app, List.append_nil]
    rfl
  | x :: t, pre, r, h => by
    have ih := rdN_ims t (pre ++ [x]) r fun i hi => h i (List.mem_cons_of_mem _ hi)
    have e : imsT ⟨#[]⟩ (x :: t) ++ r = imV x ++ (imsT ⟨#[]⟩ t ++ r) := by
      rw [show imsT ⟨#[]⟩ (x :: t) = imsT (⟨#[]⟩ ++ imV x) t from rfl, nil_app, imsT_app, ByteArray.append_assoc]
    rw [e, List.length_cons]
    unfold rdN
    rw [if_neg Bool.false_ne_true, rd1_im x _ (h x (List.mem_cons_self ..))]
    dsimp only
    rw [ih, List.append_assoc]
    rfl
theorem put_read {xs : List ImT} (h : imgsB xs = true) : oneV (putI xs) = xs.length ∧ tkB (putI xs) false 1 = false ∧ rdN xs.length (tkR (putI xs) 1) false [] = (⟨#[]⟩, false, xs) ∧ 1 ≤ (putI xs).size := by
  obtain ⟨h240, hall⟩ := imgsB_inv h
  have e : putI xs = litV (xs.length : Int) 1 ++ (imsT ⟨#[]⟩ xs ++ ⟨#[]⟩) := by rw [putI_eq, if_pos h, imsT_app, app_nil]
  rw [e]
  refine ⟨oneV_lit xs.length _ (by omega), tkB_app _ _ _ (litV_size _ _).symm, ?_, ?_⟩
  · rw [tkR_app _ _ (litV_size _ _).symm, rdN_ims xs [] ⟨#[]⟩ hall]
    rfl
  · rw [ByteArray.size_append, litV_size]
    omega
theorem putI_inj {xs ys : List ImT} (hx : imgsB xs = true) (hy : imgsB ys = true) (h : putI xs = putI ys) : xs = ys := by
  obtain ⟨a1, a2, a3, _⟩ := put_read hx
  obtain ⟨b1, b2, b3, _⟩ := put_read hy
  rw [h] at a1 a3
  have hl : xs.length = ys.length := by omega
  rw [hl] at a3
  have := a3.symm.trans b3
  injection this with _ h2
  injection h2 with _ h3
theorem decI_eq {xs : List ImT} (hx : imgsB xs = true) : decI (putI xs) = xs := by
  have := @Classical.epsilon_spec _ (fun ys : List ImT => imgsB ys = true ∧ putI xs = putI ys) ⟨xs, hx, rfl⟩
  exact (putI_inj hx this.1 this.2).symm
theorem subs_sh {xs : List ByteArray} (h : subsB xs = true) : shL xs := by
  obtain ⟨h4, h24⟩ := subsB_inv h
  exact ⟨by omega, fun z hz => by have := h24 z hz; omega⟩
theorem imgB_sh {i : ImT} (h : imgB i = true) : shIm i := by
  obtain ⟨hp, hw, hi⟩ := imgB_inv h
  obtain ⟨n1, n2⟩ := plcB_inv hp
  have := nameB_le n1
  exact ⟨by omega, subs_sh n2, by omega, by omega⟩
theorem imgsB_sh {xs : List ImT} (h : imgsB xs = true) : shIms xs := by
  obtain ⟨h240, hall⟩ := imgsB_inv h
  exact ⟨by omega, fun x hx => imgB_sh (hall x hx)⟩
theorem rd1_sh (r : ByteArray) (b : Bool) : shIm (rd1 r b).im := by
  have z1 := t1S_sz (r3 r)
  have z2 := t1S_sz (t1R (r3 r))
  have z3 : (⟨#[]⟩ : ByteArray).size = 0 := rfl
  have hk : (kName (t1S r)).size ≤ 1000000 ∧ shL (kSubs (t1S r)) := by
    unfold kName kSubs
    cases hk : holds (isKy (t1S r)) with
    | false => exact ⟨by simp only [cond_false]; omega, ⟨Nat.zero_le _, fun _ h => by cases h⟩⟩
    | true =>
      obtain ⟨⟨s, xs⟩, h3, h4⟩ := holds_inv hk
      have h3 : (t1S r).data.toList = keyL s xs := h3
      have h4 : placeB s xs = true := h4
      obtain ⟨n1, n2⟩ := plcB_inv h4
      have := nameB_le n1
      rw [cond_true, cond_true, deKy_eq h3 h4]
      exact ⟨by dsimp only; omega, subs_sh n2⟩
  unfold rd1 shIm
  dsimp only
  refine ⟨hk.1, hk.2, ?_, ?_⟩ <;> cases bit (flI r) 1 <;> cases bit (flI r) 2 <;> simp only [cond_true, cond_false] <;> omega
theorem rdN_sh : ∀ (m : Nat) (r : ByteArray) (b : Bool) (l : List ImT), (∀ x ∈ l, shIm x) → (∀ x ∈ (rdN m r b l).2.2, shIm x) ∧ (rdN m r b l).2.2.length ≤ l.length + m
  | 0, r, b, l, h => ⟨h, Nat.le_refl _⟩
  | m + 1, r, b, l, h => by
    unfold rdN
    split
    · exact ⟨h, by dsimp only; omega⟩
    · obtain ⟨h1, h2⟩ := rdN_sh m (rd1 r b).r (rd1 r b).b (l ++ [(rd1 r b).im]) fun x hx => by
        rcases List.mem_append.1 hx with hx | hx
        · exact h x hx
        · rw [List.mem_singleton.1 hx]; exact rd1_sh r b
      rw [List.length_append, List.length_singleton] at h2
      exact ⟨h1, by omega⟩
theorem loops_gi : ∀ b ∈ loopsIn (bodyOf Tryz.f5), LoopOk Tryz.prog (tabL kdb0) (OL lp_gi) Tryz.f5.ntmps (pbOf []) LO_gi b := by
  refine oneLoop 3 (by kernel_rfl) (by kernel_rfl) (by kernel_rfl) ?_
  intro ls e ls' hl
  replace hl : pickA (LO_gi_3 ls) = some (e, ls') := hl
  unfold LO_gi_3 at hl
  split at hl
  · rename_i s x r b y e c l n
    rcases pick2 hl with ⟨hc, he⟩ | ⟨hn, hc, he⟩
    · cases he
      obtain ⟨hc, k5⟩ := andE hc
      obtain ⟨hc, k4⟩ := andE hc
      obtain ⟨hc, k3⟩ := andE hc
      obtain ⟨hc, k2⟩ := andE hc
      obtain ⟨k0, k1⟩ := andE hc
      rw [Nat.eq_of_beq_eq_true k0, Nat.eq_of_beq_eq_true k1, Nat.eq_of_beq_eq_true k2, Nat.eq_of_beq_eq_true k3, nilB_inv k4]
      refine .done _ _ ((r_gi0_eq s r b n).trans ?_)
      rw [Bool.or_eq_true, decide_eq_true_eq] at k5
      rcases k5 with k5 | k5
      · rw [dF (show ¬ n > 0 by omega)]
        rfl
      · rw [k5]
        cases decide (n > 0) <;> rfl
    · cases he
      obtain ⟨hc, k7⟩ := andE hc
      obtain ⟨hc, k6⟩ := andE hc
      obtain ⟨hc, k5⟩ := andE hc
      have k4' := hc
      obtain ⟨hc, k4⟩ := andE hc
      obtain ⟨hc, k3⟩ := andE hc
      obtain ⟨hc, k2⟩ := andE hc
      obtain ⟨k0, k1⟩ := andE hc
      rw [k4', Bool.true_and, Bool.or_eq_false_iff, decide_eq_false_iff_not] at hn
      obtain ⟨hn0, hb⟩ := hn
      have k6 := of_decide_eq_true k6
      obtain ⟨m, rfl⟩ : ∃ m : Nat, n = ((m + 1 : Nat) : Int) := ⟨(n - 1).toNat, by omega⟩
      rw [Nat.eq_of_beq_eq_true k0, Nat.eq_of_beq_eq_true k1, Nat.eq_of_beq_eq_true k2, Nat.eq_of_beq_eq_true k3, nilB_inv k4, hb, Int.toNat_natCast]
      exact gi0_loop s r m (holds_inv k7) (by omega)
  · cases hl
theorem ok_gi : EntryOk Tryz.prog 5 E_gi := entry_of mix ok_kdb0 (lp := lp_gi) (LO := LO_gi) ⟨Tryz.func5, by kernel_rfl, by kernel_rfl⟩ (by kernel_rfl) fun ivs res bxs h => by
  unfold E_gi at h
  split at h
  · rename_i s
    refine ⟨loops_gi, (q_gi_eq s).trans ?_⟩
    have hs : s.size ≤ 2000000 := by
      rcases pick3n h with ⟨hc, _⟩ | ⟨_, hc, _⟩ | ⟨_, _, hc, _⟩
      · exact of_decide_eq_true (andE (andE hc).1).1
      · exact of_decide_eq_true (andE hc).1
      · exact of_decide_eq_true hc
    have hd := decide_eq_true hs
    have o1 := oneV_rng s
    have z1 := tkR_sz s 1
    have i0 : isIms (PV.sl 0 []) = true := isIms_mk shIms_nil
    have a0 : asIms (PV.sl 0 []) = [] := asIms_mk []
    rw [hd, i0, a0, nilB_mk, dT o1.1, dT o1.2, holds_mk (show (tkR s 1).size ≤ 2000000 by omega)]
    have noth : ¬ isImgs s → brC (Nat.beq 16384 16384 && Nat.beq 20480 20480 && Nat.beq 37 37 && Nat.beq 0 0 && true && (decide (oneV s ≤ 0) || tkB s false 1))
        (brC (tkB s false 1)
          (some ((IV.tup [IV.cv (CV.pv PV.nils), IV.cv (CV.pv (PV.bool false))], ([] : List (List CV)))))
          (brC (ByteArray.toList s == [])
            (some ((IV.tup [IV.cv (CV.pv PV.nils), IV.cv (CV.pv (PV.bool false))], [])))
            (brC true
              (brC (!ByteArray.toList (putI []) == ByteArray.toList s)
                (some ((IV.tup [IV.cv (CV.pv PV.nils), IV.cv (CV.pv (PV.bool false))], [])))
                (some ((IV.tup [IV.cv (CV.lst 6 37 0 [] true), IV.cv (CV.pv (PV.bool true))], []))))
              none)))
        (brC (Nat.beq 16384 16384 && Nat.beq 20480 20480 && Nat.beq 37 37 && Nat.beq 0 0 && true && true && true && true)
          (brC (Prod.fst (Prod.snd (rdN (Int.toNat (oneV s)) (tkR s 1) (tkB s false 1) [])))
            (some ((IV.tup [IV.cv (CV.pv PV.nils), IV.cv (CV.pv (PV.bool false))], [])))
            (brC (ByteArray.toList s == [])
              (some ((IV.tup [IV.cv (CV.pv PV.nils), IV.cv (CV.pv (PV.bool false))], [])))
              (brC (isIms (PV.sl (List.length (Prod.snd (Prod.snd (rdN (Int.toNat (oneV s)) (tkR s 1) (tkB s false 1) [])))) (encIm (Prod.snd (Prod.snd (rdN (Int.toNat (oneV s)) (tkR s 1) (tkB s false 1) []))))))
                (brC (!ByteArray.toList (putI (asIms (PV.sl (List.length (Prod.snd (Prod.snd (rdN (Int.toNat (oneV s)) (tkR s 1) (tkB s false 1) [])))) (encIm (Prod.snd (Prod.snd (rdN (Int.toNat (oneV s)) (tkR s 1) (tkB s false 1) []))))))) == ByteArray.toList s)
                  (some ((IV.tup [IV.cv (CV.pv PV.nils), IV.cv (CV.pv (PV.bool false))], [])))
                  (some ((IV.tup [IV.cv (CV.dls 6 37 (List.length (Prod.snd (Prod.snd (rdN (Int.toNat (oneV s)) (tkR s 1) (tkB s false 1) [])))) (encIm (Prod.snd (Prod.snd (rdN (Int.toNat (oneV s)) (tkR s 1) (tkB s false 1) []))))), IV.cv (CV.pv (PV.bool true))], []))))
                none)))
          none) = some (IV.tup [cP .nils, cB false], []) := fun hno => by
      have ne : ∀ l : List ImT, (ByteArray.toList s == ([] : List UInt8)) = false → (ByteArray.toList (putI l) == ByteArray.toList s) = false := fun l h0 => by
        refine beq_eq_false_iff_ne.2 fun e => ?_
        by_cases hl : imgsB l = true
        · exact hno ⟨l, hl, ByteArray.ext (Array.ext' (by rw [← ByteArray.toList_eq, ← ByteArray.toList_eq]; exact e.symm))⟩
        · rw [putI_eq, if_neg hl] at e
          rw [← e, show (ByteArray.toList (⟨#[]⟩ : ByteArray) == ([] : List UInt8)) = true from toList_nil []] at h0
          cases h0
      obtain ⟨g1, g2⟩ := rdN_sh (oneV s).toNat (tkR s 1) (tkB s false 1) [] (fun _ h => by cases h)
      generalize hX : rdN (oneV s).toNat (tkR s 1) (tkB s false 1) [] = X at g1 g2 ⊢
      have hsh : shIms X.2.2 := ⟨by rw [List.length_nil] at g2; omega, g1⟩
      rw [show isIms (PV.sl X.2.2.length (encIm X.2.2)) = true from isIms_mk hsh, show asIms (PV.sl X.2.2.length (encIm X.2.2)) = X.2.2 from asIms_mk _]
      cases h0 : (ByteArray.toList s == ([] : List UInt8)) with
      | true =>
        cases (decide (oneV s ≤ 0) || tkB s false 1)
        · cases X.2.1 <;> rfl
        · cases tkB s false 1 <;> rfl
      | false =>
        rw [ne [] h0, ne X.2.2 h0]
        cases (decide (oneV s ≤ 0) || tkB s false 1)
        · cases X.2.1 <;> rfl
        · cases tkB s false 1 <;> rfl
    rcases pick3n h with ⟨hc, he⟩ | ⟨hn, hc, he⟩ | ⟨hn, hn2, hc, he⟩
    · cases he
      obtain ⟨hc, k2⟩ := andE hc
      obtain ⟨k0, k1⟩ := andE hc
      obtain ⟨xs, hx, rfl⟩ := holds_inv k1
      rw [decI_eq hx] at k2
      have hnil : xs = [] := List.length_eq_zero_iff.1 (Nat.eq_of_beq_eq_true k2)
      subst hnil
      obtain ⟨p1, p2, p3, p4⟩ := put_read hx
      have hz : (ByteArray.toList (putI []) == ([] : List UInt8)) = false := by
        refine beq_eq_false_iff_ne.2 fun e => ?_
        rw [ByteArray.toList_eq, ← List.length_eq_zero_iff, ← size_len] at e
        omega
      rw [p1, p2, hz, beq_self_eq_true]
      rfl
    · cases he
      obtain ⟨k0, k1⟩ := andE hc
      obtain ⟨xs, hx, rfl⟩ := holds_inv k1
      rw [decI_eq hx, k0, k1, Bool.true_and, Bool.true_and] at hn
      rw [decI_eq hx]
      obtain ⟨p1, p2, p3, p4⟩ := put_read hx
      have hlen : 0 < xs.length := by
        rcases Nat.eq_zero_or_pos xs.length with h | h
        · rw [h] at hn; cases hn
        · exact h
      have hz : (ByteArray.toList (putI xs) == ([] : List UInt8)) = false := by
        refine beq_eq_false_iff_ne.2 fun e => ?_
        rw [ByteArray.toList_eq, ← List.length_eq_zero_iff, ← size_len] at e
        omega
      have hsh := imgsB_sh hx
      rw [p2, p1, Int.toNat_natCast, p3, hz, dF (show ¬ ((xs.length : Nat) : Int) ≤ 0 by omega)]
      dsimp only
      rw [show isIms (PV.sl xs.length (encIm xs)) = true from isIms_mk hsh, show asIms (PV.sl xs.length (encIm xs)) = xs from asIms_mk _, beq_self_eq_true]
      rfl
    · cases he
      exact noth fun hk => by
        rw [hc, holds_mk hk] at hn2
        cases hn2
  · cases h
end
section
open Go.RowKit
set_option linter.unusedVariables false
set_option linter.unusedSimpArgs false
def digL : Nat → Nat → List UInt8 → List UInt8
  | 0, _, l => l
  | f + 1, k, l => if k = 0 then l else digL f (k / 10) (UInt8.ofNat (48 + k % 10) :: l)
noncomputable def mkV (k : Int) : ByteArray := hidS (bs (109 :: digL 20 k.toNat []))
abbrev lp_mkT : List (Nat × List Nat × List Nat) := [(4, [0, 3], [0, 3])]
noncomputable def LO_mkT_4 (ls : LS) : List (Bool × Ex × LS) := match ls with
  | [(.pv (.int .i64 k), none), (.pv (.str s), none)] =>
    [(decide (0 ≤ k) && holds (k ≤ 1000000000) && Nat.beq s.size 0, .exit 0, [aI 0, aS (hidS (bs (digL 20 k.toNat [])))])]
  | _ => []
noncomputable def LO_mkT : LoopT := fun k ls => bif Nat.beq k 4 then LO_mkT_4 ls else []
noncomputable def r_mkT (br : Br) (k : Int) (s : ByteArray) := rdB br Tryz.prog [] lp_mkT LO_mkT Tryz.f18 4 [] [aI k, aS s]
noncomputable def q_mkT (br : Br) (k : Int) := evB br Tryz.prog [] lp_mkT LO_mkT Tryz.f18 [cI k]
noncomputable def E_mkT : Entry := fun ivs => match ivs with
  | [.cv (.pv (.int .i64 k))] => [(decide (1 ≤ k) && holds (k ≤ 1000000000), cS (mkV k), [])]
  | _ => []
noncomputable def kfb0 : List (FuncId × Entry) := [(18, E_mkT)]
noncomputable def mkL : Int → List ByteArray → List ByteArray
  | _, [] => []
  | k, _ :: t => mkV k :: mkL (k + 1) t
abbrev lp_mkS : List (Nat × List Nat × List Nat) := [(2, [0, 1, 5], [0, 1])]
abbrev aWL (l : List ByteArray) : AV × Option Ob := (.own 0, some (.lst 1 9 l.length (l.map .str) true))
noncomputable def LO_mkS_2 (ls : LS) : List (Bool × Ex × LS) := match ls with
  | [(.own x, some (.lst 1 e n l true)), (.pv (.int .i64 k), none), (.pv (.int .i64 i), none)] =>
    [(isL (.sl n l) && Nat.beq e 9 && Nat.beq x 0 && (i == 0) && decide (1 ≤ k) && holds (k ≤ 900000000), .exit 0, [aWL (mkL k (asL (.sl n l))), aI (k + (asL (.sl n l)).length)])]
  | _ => []
noncomputable def LO_mkS : LoopT := fun k ls => bif Nat.beq k 2 then LO_mkS_2 ls else []
noncomputable def r_mkS (br : Br) (l : List ByteArray) (k i : Int) := rdB br Tryz.prog kfb0 lp_mkS LO_mkS Tryz.f19 2 [0] [aWL l, aI k, aI i]
noncomputable def q_mkS (br : Br) (l : List ByteArray) (k : Int) := evB br Tryz.prog kfb0 lp_mkS LO_mkS Tryz.f19 [.lk false [] 1 9 l.length (l.map .str) [], cI k]
noncomputable def E_mkS : Entry := fun ivs => match ivs with
  | [.lk false [] 1 e n l [], .cv (.pv (.int .i64 k))] => [(isL (.sl n l) && Nat.beq e 9 && decide (1 ≤ k) && holds (k ≤ 900000000), cI (k + (asL (.sl n l)).length), [[.lst 1 9 n ((mkL k (asL (.sl n l))).map .str) true]])]
  | _ => []
noncomputable def mkI (k : Int) (x : ImT) : ImT := ⟨mkV k, mkL (k + 1) x.subs, decide (Int.tmod (k + 1 + x.subs.length) 3 = 0), mkV (k + 2 + x.subs.length), decide (Int.tmod (k + 3 + x.subs.length) 3 = 0), mkV (k + 4 + x.subs.length)⟩
noncomputable def mkIs : Int → List ImT → List ImT
  | _, [] => []
  | k, x :: t => mkI k x :: mkIs (k + 5 + x.subs.length) t
def mkE : Int → List ImT → Int
  | k, [] => k
  | k, x :: t => mkE (k + 5 + x.subs.length) t
noncomputable def kfb1 : List (FuncId × Entry) := (19, E_mkS) :: kfb0
abbrev lp_mkI : List (Nat × List Nat × List Nat) := [(2, [0, 1, 5], [0, 1]), (1000000, [], [24]), (1000001, [1600416], [])]
abbrev aWI0 : AV × Option Ob := (.own 0, some (.lst 6 37 0 [] true))
abbrev aWI (l : List PV) (n : Nat) : AV × Option Ob := (.own 0, some (.dls 6 37 n l true none))
noncomputable def LO_mkI_2 (ls : LS) : List (Bool × Ex × LS) := match ls with
  | [(.own x, some (.dls 6 e n l true none)), (.pv (.int .i64 k), none), (.pv (.int .i64 i), none)] =>
    [(isIms (.sl n l) && Nat.beq e 37 && Nat.beq x 0 && (i == 0) && (k == 1) && decide (n ≤ 255), .exit 0, [aWI (encIm (mkIs 1 (asIms (.sl n l)))) n, aI (mkE 1 (asIms (.sl n l)))])]
  | [(.own x, some (.lst 6 e n l true)), (.pv (.int .i64 k), none), (.pv (.int .i64 i), none)] =>
    [(Nat.beq e 37 && Nat.beq x 0 && Nat.beq n 0 && nilB l && (i == 0) && (k == 1), .exit 0, [aWI0, aI 1])]
  | _ => []
noncomputable def LO_mkI1 : LoopT := fun _ ls => match ls with
  | [(.pv (.sl n l), none), (.pv (.int .i64 k), none), (.pv (.int .i64 i), none)] =>
    [(Nat.beq n 0 && nilB l && (i == 0) && (k == 1), .exit 0, [aP (.sl 0 []), aI 1])]
  | _ => []
noncomputable def LO_mkI : LoopT := fun k ls => bif Nat.beq k 2 then LO_mkI_2 ls else []
noncomputable def r_mkI (br : Br) (n : Nat) (l : List PV) (k i : Int) := rdB br Tryz.prog kfb1 lp_mkI LO_mkI Tryz.f7 2 [0] [aWI l n, aI k, aI i]
noncomputable def r_mkI0 (br : Br) (k i : Int) := rdB br Tryz.prog kfb1 lp_mkI LO_mkI Tryz.f7 2 [0] [aWI0, aI k, aI i]
noncomputable def r_mkI1 (br : Br) (k i : Int) := rdB br Tryz.prog kfb1 lp_mkI LO_mkI1 Tryz.f7 2 [] [aP (.sl 0 []), aI k, aI i]
noncomputable def q_mkI (br : Br) (n : Nat) (l : List PV) := evB br Tryz.prog kfb1 lp_mkI LO_mkI Tryz.f7 [.lk false [] 6 (37 + 2000000) n l [], cI 1]
noncomputable def q_mkI0 (br : Br) := evB br Tryz.prog kfb1 lp_mkI LO_mkI Tryz.f7 [.lk false [] 6 37 0 [] [], cI 1]
noncomputable def q_mkI1 (br : Br) := evB br Tryz.prog kfb1 lp_mkI LO_mkI1 Tryz.f7 [cP (.sl 0 []), cI 1]
noncomputable def E_mkIa : Entry := fun ivs => match ivs with
  | [.lk false [] 6 e n l [], .cv (.pv (.int .i64 k))] =>
    [(Nat.beq e (37 + 2000000) && isIms (.sl n l) && (k == 1) && decide (n ≤ 255), cI (mkE 1 (asIms (.sl n l))), [[.dls 6 37 n (encIm (mkIs 1 (asIms (.sl n l))))]]),
     (Nat.beq e 37 && Nat.beq n 0 && nilB l && (k == 1), cI 1, [[.lst 6 37 0 [] true]])]
  | _ => []
noncomputable def E_mkIb : Entry := fun ivs => match ivs with
  | [.cv (.pv (.sl n l)), .cv (.pv (.int .i64 k))] => [(Nat.beq n 0 && nilB l && (k == 1), cI 1, [])]
  | _ => []
noncomputable def E_mkI : Entry := fun ivs => E_mkIa ivs ++ E_mkIb ivs
abbrev lp_hdS : List (Nat × List Nat × List Nat) := [(2, [0, 1, 5], [1])]
noncomputable def LO_hdS_2 (ls : LS) : List (Bool × Ex × LS) := match ls with
  | [(.pv p, none), (.pv (.int .i64 k), none), (.pv (.int .i64 i), none)] =>
    [(isL p && (i == 0) && decide (1 ≤ k) && holds (k ≤ 900000000) && holds (asL p = mkL k (asL p)), .exit 0, [aI (k + (asL p).length)])]
  | _ => []
noncomputable def LO_hdS : LoopT := fun k ls => bif Nat.beq k 2 then LO_hdS_2 ls else []
noncomputable def r_hdS (br : Br) (l : List ByteArray) (k i : Int) := rdB br Tryz.prog kfb0 lp_hdS LO_hdS Tryz.f20 2 [] [aP (pL l), aI k, aI i]
noncomputable def q_hdS (br : Br) (l : List ByteArray) (k : Int) := evB br Tryz.prog kfb0 lp_hdS LO_hdS Tryz.f20 [cP (pL l), cI k]
noncomputable def E_hdS : Entry := fun ivs => match ivs with
  | [.cv (.pv p), .cv (.pv (.int .i64 k))] => [(isL p && decide (1 ≤ k) && holds (k ≤ 900000000) && holds (asL p = mkL k (asL p)), cI (k + (asL p).length), [])]
  | _ => []
noncomputable def kfb4 : List (FuncId × Entry) := (20, E_hdS) :: kfb0
noncomputable def LO_hdI_2 (ls : LS) : List (Bool × Ex × LS) := match ls with
  | [(.pv p, none), (.pv (.int .i64 k), none), (.pv (.int .i64 i), none)] =>
    [(isIms p && (i == 0) && (k == 1) && decide ((asIms p).length ≤ 255) && holds (asIms p = mkIs 1 (asIms p)), .exit 0, [aI (mkE 1 (asIms p))])]
  | _ => []
noncomputable def LO_hdI : LoopT := fun k ls => bif Nat.beq k 2 then LO_hdI_2 ls else []
noncomputable def r_hdI (br : Br) (l : List ImT) (k i : Int) := rdB br Tryz.prog kfb4 lp_hdS LO_hdI Tryz.f8 2 [] [aP (pIms l), aI k, aI i]
noncomputable def q_hdI (br : Br) (l : List ImT) := evB br Tryz.prog kfb4 lp_hdS LO_hdI Tryz.f8 [cP (pIms l), cI 1]
noncomputable def E_hdI : Entry := fun ivs => match ivs with
  | [.cv (.pv p), .cv (.pv (.int .i64 k))] => [(isIms p && (k == 1) && decide ((asIms p).length ≤ 255) && holds (asIms p = mkIs 1 (asIms p)), cI (mkE 1 (asIms p)), [])]
  | _ => []
abbrev lp_eqSt : List (Nat × List Nat × List Nat) := [(4, [0, 1, 5], [0, 4])]
noncomputable def LO_eqSt_4 (ls : LS) : List (Bool × Ex × LS) := match ls with
  | [(.pv p, none), (.pv q, none), (.pv (.int .i64 i), none)] =>
    [(isL p && isL q && (i == 0) && decide ((asL p).length = (asL q).length) && holds (asL p = asL q), .exit 0, [aP p, aX]),
     (isL p && isL q && (i == 0) && decide ((asL p).length = (asL q).length), .ret, [aP p, aB false])]
  | _ => []
noncomputable def LO_eqSt : LoopT := fun k ls => bif Nat.beq k 4 then LO_eqSt_4 ls else []
noncomputable def r_eqSt (br : Br) (l u : List ByteArray) (i : Int) := rdB br Tryz.prog [] lp_eqSt LO_eqSt Tryz.f37 4 [] [aP (pL l), aP (pL u), aI i]
noncomputable def q_eqSt (br : Br) (l u : List ByteArray) := evB br Tryz.prog [] lp_eqSt LO_eqSt Tryz.f37 [cP (pL l), cP (pL u)]
noncomputable def E_eqSt : Entry := fun ivs => match ivs with
  | [.cv (.pv p), .cv (.pv q)] => [(isL p && isL q, cB (holds (asL p = asL q)), [])]
  | _ => []
noncomputable def kfb2 : List (FuncId × Entry) := [(37, E_eqSt)]
noncomputable def q_eqIm (br : Br) (x y : ImT) := evB br Tryz.prog kfb2 [] LO0 Tryz.f17 [cP (pIm x), cP (pIm y)]
noncomputable def E_eqIm : Entry := fun ivs => match ivs with
  | [.cv (.pv p), .cv (.pv q)] => [(isIm p && isIm q, cB (holds (asIm p = asIm q)), [])]
  | _ => []
noncomputable def kfb3 : List (FuncId × Entry) := [(17, E_eqIm)]
noncomputable def LO_eqIs_4 (ls : LS) : List (Bool × Ex × LS) := match ls with
  | [(.pv p, none), (.pv q, none), (.pv (.int .i64 i), none)] =>
    [(isIms p && isIms q && (i == 0) && decide ((asIms p).length = (asIms q).length) && holds (asIms p = asIms q), .exit 0, [aP p, aX]),
     (isIms p && isIms q && (i == 0) && decide ((asIms p).length = (asIms q).length), .ret, [aP p, aB false])]
  | _ => []
noncomputable def LO_eqIs : LoopT := fun k ls => bif Nat.beq k 4 then LO_eqIs_4 ls else []
noncomputable def r_eqIs (br : Br) (l u : List ImT) (i : Int) := rdB br Tryz.prog kfb3 lp_eqSt LO_eqIs Tryz.f6 4 [] [aP (pIms l), aP (pIms u), aI i]
noncomputable def q_eqIs (br : Br) (l u : List ImT) := evB br Tryz.prog kfb3 lp_eqSt LO_eqIs Tryz.f6 [cP (pIms l), cP (pIms u)]
noncomputable def E_eqIs : Entry := fun ivs => match ivs with
  | [.cv (.pv p), .cv (.pv q)] => [(isIms p && isIms q, cB (holds (asIms p = asIms q)), [])]
  | _ => []
end
section
set_option linter.unusedVariables false
set_option maxRecDepth 100000
theorem q_hdS_eq (l : List ByteArray) (k : Int) : q_hdS brC l k =
 brC (isL (pL l) && 0 == 0 && decide (1 ≤ k) && holds (k ≤ 900000000) && holds (asL (pL l) = mkL k (asL (pL l))))
 (some ((IV.cv (CV.pv (PV.int IntKind.i64 (k + (↑(List.length (asL (pL l))) : Int)))), [])))
 (none) := by kernel_rfl
theorem q_eqSt_eq (l : List ByteArray) (u : List ByteArray) : q_eqSt brC l u =
 brC ((↑(List.length l) : Int) != (↑(List.length u) : Int))
 (some ((IV.cv (CV.pv (PV.bool false)), [])))
 (brC (isL (pL l) && isL (pL u) && 0 == 0 && decide (List.length (asL (pL l)) = List.length (asL (pL u))) && holds (asL (pL l) = asL (pL u)))
 (some ((IV.cv (CV.pv (PV.bool true)), [])))
 (brC (isL (pL l) && isL (pL u) && 0 == 0 && decide (List.length (asL (pL l)) = List.length (asL (pL u))))
 (some ((IV.cv (CV.pv (PV.bool false)), [])))
 (none))) := by kernel_rfl
theorem q_mkI_eq (n : Nat) (l : List PV) : q_mkI brC n l =
 brC (isIms (PV.sl n l) && Nat.beq (37 + 2000000 - 2000000) 37 && Nat.beq 0 0 && 0 == 0 && 1 == 1 && decide (n ≤ 255))
 (brC (Nat.beq n n)
 (some ((IV.cv (CV.pv (PV.int IntKind.i64 (mkE 1 (asIms (PV.sl n l))))), [[CV.dls 6 37 n (encIm (mkIs 1 (asIms (PV.sl n l))))]])))
 (none))
 (none) := by kernel_rfl
theorem q_hdI_eq (l : List ImT) : q_hdI brC l =
 brC (isIms (pIms l) && 0 == 0 && 1 == 1 && decide (List.length (asIms (pIms l)) ≤ 255) && holds (asIms (pIms l) = mkIs 1 (asIms (pIms l))))
 (some ((IV.cv (CV.pv (PV.int IntKind.i64 (mkE 1 (asIms (pIms l))))), [])))
 (none) := by kernel_rfl
theorem q_mkT_eq (k : Int) : q_mkT brC k =
 brC (decide (k ≤ 0))
 (some ((IV.cv (CV.pv (PV.str { data := #[109, 48] })), [])))
 (brC (decide (0 ≤ k) && holds (k ≤ 1000000000) && Nat.beq 0 0)
 (brC (decide (1 + ByteArray.size (hidS (bs (digL 20 (Int.toNat k) []))) ≤ 9223372036854775807) && true)
 (some ((IV.cv (CV.pv (PV.str ({ data := #[109] } ++ hidS (bs (digL 20 (Int.toNat k) []))))), [])))
 (none))
 (none)) := by kernel_rfl
theorem r_hdS_eq (l : List ByteArray) (k : Int) (i : Int) : r_hdS brC l k i =
 brC (decide (i < (↑(List.length l) : Int)))
 (brC (decide (0 ≤ i) && decide (i < (↑(List.length l) : Int)))
 (brC (Nat.blt 0 (List.length (List.drop (Int.toNat i * 1) (List.map PV.str l))) && PV.isStr (List.headD (List.drop (Int.toNat i * 1) (List.map PV.str l)) PV.nilp) && true)
 (brC (decide (1 ≤ k) && holds (k ≤ 1000000000))
 (brC (!ByteArray.toList (PV.asStr (List.headD (List.drop (Int.toNat i * 1) (List.map PV.str l)) PV.nilp)) == ByteArray.toList (mkV k))
 (some (Sum.inr (Ex.ret, [(AV.pv (PV.int IntKind.i64 k), none)])))
 (some (Sum.inl [(AV.pv (PV.sl (List.length l) (List.map PV.str l)), none), (AV.pv (PV.int IntKind.i64 (IntKind.wrap IntKind.i64 (k + 1))), none), (AV.pv (PV.int IntKind.i64 (IntKind.wrap IntKind.i64 (i + 1))), none)])))
 (none))
 (none))
 (none))
 (some (Sum.inr (Ex.exit 0, [(AV.pv (PV.int IntKind.i64 k), none)]))) := by kernel_rfl
theorem r_eqSt_eq (l : List ByteArray) (u : List ByteArray) (i : Int) : r_eqSt brC l u i =
 brC (decide (i < (↑(List.length l) : Int)))
 (brC (decide (0 ≤ i) && decide (i < (↑(List.length l) : Int)))
 (brC (Nat.blt 0 (List.length (List.drop (Int.toNat i * 1) (List.map PV.str l))) && PV.isStr (List.headD (List.drop (Int.toNat i * 1) (List.map PV.str l)) PV.nilp) && true)
 (brC (decide (0 ≤ i) && decide (i < (↑(List.length u) : Int)))
 (brC (Nat.blt 0 (List.length (List.drop (Int.toNat i * 1) (List.map PV.str u))) && PV.isStr (List.headD (List.drop (Int.toNat i * 1) (List.map PV.str u)) PV.nilp) && true)
 (brC (!ByteArray.toList (PV.asStr (List.headD (List.drop (Int.toNat i * 1) (List.map PV.str l)) PV.nilp)) == ByteArray.toList (PV.asStr (List.headD (List.drop (Int.toNat i * 1) (List.map PV.str u)) PV.nilp)))
 (some (Sum.inr (Ex.ret, [(AV.pv (PV.sl (List.length l) (List.map PV.str l)), none), (AV.pv (PV.bool false), none)])))
 (some (Sum.inl [(AV.pv (PV.sl (List.length l) (List.map PV.str l)), none), (AV.pv (PV.sl (List.length u) (List.map PV.str u)), none), (AV.pv (PV.int IntKind.i64 (IntKind.wrap IntKind.i64 (i + 1))), none)])))
 (none))
 (none))
 (none))
 (none))
 (some (Sum.inr (Ex.exit 0, [(AV.pv (PV.sl (List.length l) (List.map PV.str l)), none), (AV.bad, none)]))) := by kernel_rfl
theorem q_mkS_eq (l : List ByteArray) (k : Int) : q_mkS brC l k =
 brC (isL (PV.sl (List.length l) (List.map PV.str l)) && Nat.beq 9 9 && Nat.beq 0 0 && 0 == 0 && decide (1 ≤ k) && holds (k ≤ 900000000))
 (brC (Nat.beq (List.length (mkL k (asL (PV.sl (List.length l) (List.map PV.str l))))) (List.length l))
 (some ((IV.cv (CV.pv (PV.int IntKind.i64 (k + (↑(List.length (asL (PV.sl (List.length l) (List.map PV.str l)))) : Int)))), [[CV.lst 1 9 (List.length l) (List.map PV.str (mkL k (asL (PV.sl (List.length l) (List.map PV.str l))))) true]])))
 (none))
 (none) := by kernel_rfl
theorem r_hdI_eq (l : List ImT) (k : Int) (i : Int) : r_hdI brC l k i =
 brC (decide (i < (↑(List.length l) : Int)))
 (brC (decide (0 ≤ i) && decide (i < (↑(List.length l) : Int)))
 (brC (Nat.blt 0 (List.length (List.drop 0 (List.drop (Int.toNat i * 6) (encIm l)))) && PV.isStr (List.headD (List.drop 0 (List.drop (Int.toNat i * 6) (encIm l))) PV.nilp) && true)
 (brC (decide (1 ≤ k) && holds (k ≤ 1000000000))
 (brC (!ByteArray.toList (PV.asStr (List.headD (List.drop 0 (List.drop (Int.toNat i * 6) (encIm l))) PV.nilp)) == ByteArray.toList (mkV k))
 (some (Sum.inr (Ex.ret, [(AV.pv (PV.int IntKind.i64 k), none)])))
 (brC (decide (0 ≤ i) && decide (i < (↑(List.length l) : Int)))
 (brC (Nat.blt 0 (List.length (List.drop 1 (List.drop (Int.toNat i * 6) (encIm l)))) && PV.isSl (List.headD (List.drop 1 (List.drop (Int.toNat i * 6) (encIm l))) PV.nilp) && true)
 (brC (isL (PV.sl (PV.slN (List.headD (List.drop 1 (List.drop (Int.toNat i * 6) (encIm l))) PV.nilp)) (PV.slL (List.headD (List.drop 1 (List.drop (Int.toNat i * 6) (encIm l))) PV.nilp))) && decide (1 ≤ IntKind.wrap IntKind.i64 (k + 1)) && holds (IntKind.wrap IntKind.i64 (k + 1) ≤ 900000000) && holds (asL (PV.sl (PV.slN (List.headD (List.drop 1 (List.drop (Int.toNat i * 6) (encIm l))) PV.nilp)) (PV.slL (List.headD (List.drop 1 (List.drop (Int.toNat i * 6) (encIm l))) PV.nilp))) = mkL (IntKind.wrap IntKind.i64 (k + 1)) (asL (PV.sl (PV.slN (List.headD (List.drop 1 (List.drop (Int.toNat i * 6) (encIm l))) PV.nilp)) (PV.slL (List.headD (List.drop 1 (List.drop (Int.toNat i * 6) (encIm l))) PV.nilp))))))
 (brC (decide (IntKind.wrap IntKind.i64 (k + 1) + (↑(List.length (asL (PV.sl (PV.slN (List.headD (List.drop 1 (List.drop (Int.toNat i * 6) (encIm l))) PV.nilp)) (PV.slL (List.headD (List.drop 1 (List.drop (Int.toNat i * 6) (encIm l))) PV.nilp))))) : Int) < 0))
 (some (Sum.inr (Ex.ret, [(AV.pv (PV.int IntKind.i64 (IntKind.wrap IntKind.i64 (k + 1) + (↑(List.length (asL (PV.sl (PV.slN (List.headD (List.drop 1 (List.drop (Int.toNat i * 6) (encIm l))) PV.nilp)) (PV.slL (List.headD (List.drop 1 (List.drop (Int.toNat i * 6) (encIm l))) PV.nilp))))) : Int))), none)])))
 (brC (decide (0 ≤ i) && decide (i < (↑(List.length l) : Int)))
 (brC (Nat.blt 0 (List.length (List.drop 2 (List.drop (Int.toNat i * 6) (encIm l)))) && PV.isBool (List.headD (List.drop 2 (List.drop (Int.toNat i * 6) (encIm l))) PV.nilp) && true)
 (brC (!PV.asBool (List.headD (List.drop 2 (List.drop (Int.toNat i * 6) (encIm l))) PV.nilp) == (Int.tmod (IntKind.wrap IntKind.i64 (k + 1) + (↑(List.length (asL (PV.sl (PV.slN (List.headD (List.drop 1 (List.drop (Int.toNat i * 6) (encIm l))) PV.nilp)) (PV.slL (List.headD (List.drop 1 (List.drop (Int.toNat i * 6) (encIm l))) PV.nilp))))) : Int)) 3 == 0))
 (some (Sum.inr (Ex.ret, [(AV.pv (PV.int IntKind.i64 (IntKind.wrap IntKind.i64 (k + 1) + (↑(List.length (asL (PV.sl (PV.slN (List.headD (List.drop 1 (List.drop (Int.toNat i * 6) (encIm l))) PV.nilp)) (PV.slL (List.headD (List.drop 1 (List.drop (Int.toNat i * 6) (encIm l))) PV.nilp))))) : Int))), none)])))
 (brC (decide (0 ≤ i) && decide (i < (↑(List.length l) : Int)))
 (brC (Nat.blt 0 (List.length (List.drop 3 (List.drop (Int.toNat i * 6) (encIm l)))) && PV.isStr (List.headD (List.drop 3 (List.drop (Int.toNat i * 6) (encIm l))) PV.nilp) && true)
 (brC (decide (1 ≤ IntKind.wrap IntKind.i64 (IntKind.wrap IntKind.i64 (k + 1) + (↑(List.length (asL (PV.sl (PV.slN (List.headD (List.drop 1 (List.drop (Int.toNat i * 6) (encIm l))) PV.nilp)) (PV.slL (List.headD (List.drop 1 (List.drop (Int.toNat i * 6) (encIm l))) PV.nilp))))) : Int) + 1)) && holds (IntKind.wrap IntKind.i64 (IntKind.wrap IntKind.i64 (k + 1) + (↑(List.length (asL (PV.sl (PV.slN (List.headD (List.drop 1 (List.drop (Int.toNat i * 6) (encIm l))) PV.nilp)) (PV.slL (List.headD (List.drop 1 (List.drop (Int.toNat i * 6) (encIm l))) PV.nilp))))) : Int) + 1) ≤ 1000000000))
 (brC (!ByteArray.toList (PV.asStr (List.headD (List.drop 3 (List.drop (Int.toNat i * 6) (encIm l))) PV.nilp)) == ByteArray.toList (mkV (IntKind.wrap IntKind.i64 (IntKind.wrap IntKind.i64 (k + 1) + (↑(List.length (asL (PV.sl (PV.slN (List.headD (List.drop 1 (List.drop (Int.toNat i * 6) (encIm l))) PV.nilp)) (PV.slL (List.headD (List.drop 1 (List.drop (Int.toNat i * 6) (encIm l))) PV.nilp))))) : Int) + 1))))
 (some (Sum.inr (Ex.ret, [(AV.pv (PV.int IntKind.i64 (IntKind.wrap IntKind.i64 (IntKind.wrap IntKind.i64 (k + 1) + (↑(List.length (asL (PV.sl (PV.slN (List.headD (List.drop 1 (List.drop (Int.toNat i * 6) (encIm l))) PV.nilp)) (PV.slL (List.headD (List.drop 1 (List.drop (Int.toNat i * 6) (encIm l))) PV.nilp))))) : Int) + 1))), none)])))
 (brC (decide (0 ≤ i) && decide (i < (↑(List.length l) : Int)))
 (brC (Nat.blt 0 (List.length (List.drop 4 (List.drop (Int.toNat i * 6) (encIm l)))) && PV.isBool (List.headD (List.drop 4 (List.drop (Int.toNat i * 6) (encIm l))) PV.nilp) && true)
 (brC (!PV.asBool (List.headD (List.drop 4 (List.drop (Int.toNat i * 6) (encIm l))) PV.nilp) == (Int.tmod (IntKind.wrap IntKind.i64 (IntKind.wrap IntKind.i64 (IntKind.wrap IntKind.i64 (k + 1) + (↑(List.length (asL (PV.sl (PV.slN (List.headD (List.drop 1 (List.drop (Int.toNat i * 6) (encIm l))) PV.nilp)) (PV.slL (List.headD (List.drop 1 (List.drop (Int.toNat i * 6) (encIm l))) PV.nilp))))) : Int) + 1) + 1)) 3 == 0))
 (some (Sum.inr (Ex.ret, [(AV.pv (PV.int IntKind.i64 (IntKind.wrap IntKind.i64 (IntKind.wrap IntKind.i64 (IntKind.wrap IntKind.i64 (k + 1) + (↑(List.length (asL (PV.sl (PV.slN (List.headD (List.drop 1 (List.drop (Int.toNat i * 6) (encIm l))) PV.nilp)) (PV.slL (List.headD (List.drop 1 (List.drop (Int.toNat i * 6) (encIm l))) PV.nilp))))) : Int) + 1) + 1))), none)])))
 (brC (decide (0 ≤ i) && decide (i < (↑(List.length l) : Int)))
 (brC (Nat.blt 0 (List.length (List.drop 5 (List.drop (Int.toNat i * 6) (encIm l)))) && PV.isStr (List.headD (List.drop 5 (List.drop (Int.toNat i * 6) (encIm l))) PV.nilp) && true)
 (brC (decide (1 ≤ IntKind.wrap IntKind.i64 (IntKind.wrap IntKind.i64 (IntKind.wrap IntKind.i64 (IntKind.wrap IntKind.i64 (k + 1) + (↑(List.length (asL (PV.sl (PV.slN (List.headD (List.drop 1 (List.drop (Int.toNat i * 6) (encIm l))) PV.nilp)) (PV.slL (List.headD (List.drop 1 (List.drop (Int.toNat i * 6) (encIm l))) PV.nilp))))) : Int) + 1) + 1) + 1)) && holds (IntKind.wrap IntKind.i64 (IntKind.wrap IntKind.i64 (IntKind.wrap IntKind.i64 (IntKind.wrap IntKind.i64 (k + 1) + (↑(List.length (asL (PV.sl (PV.slN (List.headD (List.drop 1 (List.drop (Int.toNat i * 6) (encIm l))) PV.nilp)) (PV.slL (List.headD (List.drop 1 (List.drop (Int.toNat i * 6) (encIm l))) PV.nilp))))) : Int) + 1) + 1) + 1) ≤ 1000000000))
 (brC (!ByteArray.toList (PV.asStr (List.headD (List.drop 5 (List.drop (Int.toNat i * 6) (encIm l))) PV.nilp)) == ByteArray.toList (mkV (IntKind.wrap IntKind.i64 (IntKind.wrap IntKind.i64 (IntKind.wrap IntKind.i64 (IntKind.wrap IntKind.i64 (k + 1) + (↑(List.length (asL (PV.sl (PV.slN (List.headD (List.drop 1 (List.drop (Int.toNat i * 6) (encIm l))) PV.nilp)) (PV.slL (List.headD (List.drop 1 (List.drop (Int.toNat i * 6) (encIm l))) PV.nilp))))) : Int) + 1) + 1) + 1))))
 (some (Sum.inr (Ex.ret, [(AV.pv (PV.int IntKind.i64 (IntKind.wrap IntKind.i64 (IntKind.wrap IntKind.i64 (IntKind.wrap IntKind.i64 (IntKind.wrap IntKind.i64 (k + 1) + (↑(List.length (asL (PV.sl (PV.slN (List.headD (List.drop 1 (List.drop (Int.toNat i * 6) (encIm l))) PV.nilp)) (PV.slL (List.headD (List.drop 1 (List.drop (Int.toNat i * 6) (encIm l))) PV.nilp))))) : Int) + 1) + 1) + 1))), none)])))
 (some (Sum.inl [(AV.pv (PV.sl (List.length l) (encIm l)), none), (AV.pv (PV.int IntKind.i64 (IntKind.wrap IntKind.i64 (IntKind.wrap IntKind.i64 (IntKind.wrap IntKind.i64 (IntKind.wrap IntKind.i64 (IntKind.wrap IntKind.i64 (k + 1) + (↑(List.length (asL (PV.sl (PV.slN (List.headD (List.drop 1 (List.drop (Int.toNat i * 6) (encIm l))) PV.nilp)) (PV.slL (List.headD (List.drop 1 (List.drop (Int.toNat i * 6) (encIm l))) PV.nilp))))) : Int) + 1) + 1) + 1) + 1))), none), (AV.pv (PV.int IntKind.i64 (IntKind.wrap IntKind.i64 (i + 1))), none)])))
 (none))
 (none))
 (none)))
 (none))
 (none)))
 (none))
 (none))
 (none)))
 (none))
 (none)))
 (none))
 (none))
 (none)))
 (none))
 (none))
 (none))
 (some (Sum.inr (Ex.exit 0, [(AV.pv (PV.int IntKind.i64 k), none)]))) := by kernel_rfl
theorem q_mkI1_eq : q_mkI1 brC =
 brC (Nat.beq 0 0 && nilB [] && 0 == 0 && 1 == 1)
 (some ((IV.cv (CV.pv (PV.int IntKind.i64 (Int.ofNat 1))), [])))
 (none) := by kernel_rfl
theorem r_mkI1_eq (k : Int) (i : Int) : r_mkI1 brC k i =
 brC (decide (i < (↑0 : Int)))
 (brC (decide (1 ≤ k) && holds (k ≤ 1000000000))
 (brC (decide (0 ≤ i) && decide (i < (↑0 : Int)))
 (none)
 (none))
 (none))
 (some (Sum.inr (Ex.exit 0, [(AV.pv (PV.sl 0 []), none), (AV.pv (PV.int IntKind.i64 k), none)]))) := by kernel_rfl
theorem r_mkI0_eq (k : Int) (i : Int) : r_mkI0 brC k i =
 brC (decide (i < (↑0 : Int)))
 (brC (decide (1 ≤ k) && holds (k ≤ 1000000000))
 (brC (decide (0 ≤ i) && decide (i < (↑0 : Int)))
 (none)
 (none))
 (none))
 (some (Sum.inr (Ex.exit 0, [(AV.own 0, some (Ob.lst 6 37 0 [] true)), (AV.pv (PV.int IntKind.i64 k), none)]))) := by kernel_rfl
theorem r_mkT_eq (k : Int) (s : ByteArray) : r_mkT brC k s =
 brC (decide (k > 0))
 (brC (decide (ByteArray.size { data := #[UInt8.ofNat (Int.toNat (IntKind.wrap IntKind.u8 (IntKind.wrap IntKind.i64 (48 + Int.tmod k 10))))] } + ByteArray.size s ≤ 9223372036854775807) && true)
 (some (Sum.inl [(AV.pv (PV.int IntKind.i64 (IntKind.wrap IntKind.i64 (Int.tdiv k 10))), none), (AV.pv (PV.str ({ data := #[UInt8.ofNat (Int.toNat (IntKind.wrap IntKind.u8 (IntKind.wrap IntKind.i64 (48 + Int.tmod k 10))))] } ++ s)), none)]))
 (none))
 (some (Sum.inr (Ex.exit 0, [(AV.pv (PV.int IntKind.i64 k), none), (AV.pv (PV.str s), none)]))) := by kernel_rfl
theorem q_eqIs_eq (l : List ImT) (u : List ImT) : q_eqIs brC l u =
 brC ((↑(List.length l) : Int) != (↑(List.length u) : Int))
 (some ((IV.cv (CV.pv (PV.bool false)), [])))
 (brC (isIms (pIms l) && isIms (pIms u) && 0 == 0 && decide (List.length (asIms (pIms l)) = List.length (asIms (pIms u))) && holds (asIms (pIms l) = asIms (pIms u)))
 (some ((IV.cv (CV.pv (PV.bool true)), [])))
 (brC (isIms (pIms l) && isIms (pIms u) && 0 == 0 && decide (List.length (asIms (pIms l)) = List.length (asIms (pIms u))))
 (some ((IV.cv (CV.pv (PV.bool false)), [])))
 (none))) := by kernel_rfl
noncomputable def zza0 (n : Nat) (l : List PV) (k : Int) (i : Int) := (List.take (Int.toNat i * 6 + 2) (List.take (Int.toNat i * 6 + 1) (List.take (Int.toNat i * 6 + 0) l ++ [PV.str (mkV k)] ++ List.drop (Int.toNat i * 6 + 0 + 1) l) ++ [PV.sl (PV.slN (List.headD (List.drop (Int.toNat i * 6 + 1) (List.take (Int.toNat i * 6 + 0) l ++ [PV.str (mkV k)] ++ List.drop (Int.toNat i * 6 + 0 + 1) l)) PV.nilp)) (List.map PV.str (mkL (IntKind.wrap IntKind.i64 (k + 1)) (asL (PV.sl (PV.slN (List.headD (List.drop (Int.toNat i * 6 + 1) (List.take (Int.toNat i * 6 + 0) l ++ [PV.str (mkV k)] ++ List.drop (Int.toNat i * 6 + 0 + 1) l)) PV.nilp)) (PV.slL (List.headD (List.drop (Int.toNat i * 6 + 1) (List.take (Int.toNat i * 6 + 0) l ++ [PV.str (mkV k)] ++ List.drop (Int.toNat i * 6 + 0 + 1) l)) PV.nilp))))))] ++ List.drop (Int.toNat i * 6 + 1 + 1) (List.take (Int.toNat i * 6 + 0) l ++ [PV.str (mkV k)] ++ List.drop (Int.toNat i * 6 + 0 + 1) l)) ++ [PV.bool (Int.tmod (IntKind.wrap IntKind.i64 (k + 1) + (↑(List.length (asL (PV.sl (PV.slN (List.headD (List.drop (Int.toNat i * 6 + 1) (List.take (Int.toNat i * 6 + 0) l ++ [PV.str (mkV k)] ++ List.drop (Int.toNat i * 6 + 0 + 1) l)) PV.nilp)) (PV.slL (List.headD (List.drop (Int.toNat i * 6 + 1) (List.take (Int.toNat i * 6 + 0) l ++ [PV.str (mkV k)] ++ List.drop (Int.toNat i * 6 + 0 + 1) l)) PV.nilp))))) : Int)) 3 == 0)] ++ List.drop (Int.toNat i * 6 + 2 + 1) (List.take (Int.toNat i * 6 + 1) (List.take (Int.toNat i * 6 + 0) l ++ [PV.str (mkV k)] ++ List.drop (Int.toNat i * 6 + 0 + 1) l) ++ [PV.sl (PV.slN (List.headD (List.drop (Int.toNat i * 6 + 1) (List.take (Int.toNat i * 6 + 0) l ++ [PV.str (mkV k)] ++ List.drop (Int.toNat i * 6 + 0 + 1) l)) PV.nilp)) (List.map PV.str (mkL (IntKind.wrap IntKind.i64 (k + 1)) (asL (PV.sl (PV.slN (List.headD (List.drop (Int.toNat i * 6 + 1) (List.take (Int.toNat i * 6 + 0) l ++ [PV.str (mkV k)] ++ List.drop (Int.toNat i * 6 + 0 + 1) l)) PV.nilp)) (PV.slL (List.headD (List.drop (Int.toNat i * 6 + 1) (List.take (Int.toNat i * 6 + 0) l ++ [PV.str (mkV k)] ++ List.drop (Int.toNat i * 6 + 0 + 1) l)) PV.nilp))))))] ++ List.drop (Int.toNat i * 6 + 1 + 1) (List.take (Int.toNat i * 6 + 0) l ++ [PV.str (mkV k)] ++ List.drop (Int.toNat i * 6 + 0 + 1) l)))
noncomputable def zza1 (n : Nat) (l : List PV) (k : Int) (i : Int) := (IntKind.wrap IntKind.i64 (k + 1) + (↑(List.length (asL (PV.sl (PV.slN (List.headD (List.drop (Int.toNat i * 6 + 1) (List.take (Int.toNat i * 6 + 0) l ++ [PV.str (mkV k)] ++ List.drop (Int.toNat i * 6 + 0 + 1) l)) PV.nilp)) (PV.slL (List.headD (List.drop (Int.toNat i * 6 + 1) (List.take (Int.toNat i * 6 + 0) l ++ [PV.str (mkV k)] ++ List.drop (Int.toNat i * 6 + 0 + 1) l)) PV.nilp))))) : Int) + 1)
noncomputable def zza2 (n : Nat) (l : List PV) (k : Int) (i : Int) := (List.take (Int.toNat i * 6 + 4) (List.take (Int.toNat i * 6 + 3) (zza0 n l k i) ++ [PV.str (mkV (IntKind.wrap IntKind.i64 (zza1 n l k i)))] ++ List.drop (Int.toNat i * 6 + 3 + 1) (zza0 n l k i)) ++ [PV.bool (Int.tmod (IntKind.wrap IntKind.i64 (IntKind.wrap IntKind.i64 (zza1 n l k i) + 1)) 3 == 0)] ++ List.drop (Int.toNat i * 6 + 4 + 1) (List.take (Int.toNat i * 6 + 3) (zza0 n l k i) ++ [PV.str (mkV (IntKind.wrap IntKind.i64 (zza1 n l k i)))] ++ List.drop (Int.toNat i * 6 + 3 + 1) (zza0 n l k i)))
noncomputable def zza3 (n : Nat) (l : List PV) (k : Int) (i : Int) := (List.headD (List.drop (Int.toNat i * 6 + 1) (List.take (Int.toNat i * 6 + 0) l ++ [PV.str (mkV k)] ++ List.drop (Int.toNat i * 6 + 0 + 1) l)) PV.nilp)
theorem r_mkI_eq (n : Nat) (l : List PV) (k : Int) (i : Int) : r_mkI brC n l k i =
 brC (decide (i < (↑n : Int)))
 (brC (decide (1 ≤ k) && holds (k ≤ 1000000000))
 (brC (decide (0 ≤ i) && decide (i < (↑n : Int)))
 (brC (Nat.ble (Int.toNat i * 6 + 0 + 1) (List.length l) && noKid 37 6 (Int.toNat i * 6 + 0))
 (brC (decide (0 ≤ i) && decide (i < (↑n : Int)))
 (brC (Nat.blt (Int.toNat i * 6 + 1) (List.length (List.take (Int.toNat i * 6 + 0) l ++ [PV.str (mkV k)] ++ List.drop (Int.toNat i * 6 + 0 + 1) l)) && (PV.isSl (zza3 n l k i) && isKid 37 6 (Int.toNat i * 6 + 1) 1 9))
 (brC (isL (PV.sl (PV.slN (zza3 n l k i)) (PV.slL (zza3 n l k i))) && Nat.beq 9 9 && decide (1 ≤ IntKind.wrap IntKind.i64 (k + 1)) && holds (IntKind.wrap IntKind.i64 (k + 1) ≤ 900000000))
 (brC (decide (0 ≤ i) && decide (i < (↑n : Int)))
 (brC (Nat.ble (Int.toNat i * 6 + 2 + 1) (List.length (List.take (Int.toNat i * 6 + 1) (List.take (Int.toNat i * 6 + 0) l ++ [PV.str (mkV k)] ++ List.drop (Int.toNat i * 6 + 0 + 1) l) ++ [PV.sl (PV.slN (zza3 n l k i)) (List.map PV.str (mkL (IntKind.wrap IntKind.i64 (k + 1)) (asL (PV.sl (PV.slN (zza3 n l k i)) (PV.slL (zza3 n l k i))))))] ++ List.drop (Int.toNat i * 6 + 1 + 1) (List.take (Int.toNat i * 6 + 0) l ++ [PV.str (mkV k)] ++ List.drop (Int.toNat i * 6 + 0 + 1) l))) && noKid 37 6 (Int.toNat i * 6 + 2))
 (brC (decide (1 ≤ IntKind.wrap IntKind.i64 (zza1 n l k i)) && holds (IntKind.wrap IntKind.i64 (zza1 n l k i) ≤ 1000000000))
 (brC (decide (0 ≤ i) && decide (i < (↑n : Int)))
 (brC (Nat.ble (Int.toNat i * 6 + 3 + 1) (List.length (zza0 n l k i)) && noKid 37 6 (Int.toNat i * 6 + 3))
 (brC (decide (0 ≤ i) && decide (i < (↑n : Int)))
 (brC (Nat.ble (Int.toNat i * 6 + 4 + 1) (List.length (List.take (Int.toNat i * 6 + 3) (zza0 n l k i) ++ [PV.str (mkV (IntKind.wrap IntKind.i64 (zza1 n l k i)))] ++ List.drop (Int.toNat i * 6 + 3 + 1) (zza0 n l k i))) && noKid 37 6 (Int.toNat i * 6 + 4))
 (brC (decide (1 ≤ IntKind.wrap IntKind.i64 (IntKind.wrap IntKind.i64 (IntKind.wrap IntKind.i64 (zza1 n l k i) + 1) + 1)) && holds (IntKind.wrap IntKind.i64 (IntKind.wrap IntKind.i64 (IntKind.wrap IntKind.i64 (zza1 n l k i) + 1) + 1) ≤ 1000000000))
 (brC (decide (0 ≤ i) && decide (i < (↑n : Int)))
 (brC (Nat.ble (Int.toNat i * 6 + 5 + 1) (List.length (zza2 n l k i)) && noKid 37 6 (Int.toNat i * 6 + 5))
 (some (Sum.inl [(AV.own 0, some (Ob.dls 6 37 n (List.take (Int.toNat i * 6 + 5) (zza2 n l k i) ++ [PV.str (mkV (IntKind.wrap IntKind.i64 (IntKind.wrap IntKind.i64 (IntKind.wrap IntKind.i64 (zza1 n l k i) + 1) + 1)))] ++ List.drop (Int.toNat i * 6 + 5 + 1) (zza2 n l k i)) true none)), (AV.pv (PV.int IntKind.i64 (IntKind.wrap IntKind.i64 (IntKind.wrap IntKind.i64 (IntKind.wrap IntKind.i64 (IntKind.wrap IntKind.i64 (zza1 n l k i) + 1) + 1) + 1))), none), (AV.pv (PV.int IntKind.i64 (IntKind.wrap IntKind.i64 (i + 1))), none)]))
 (none))
 (none))
 (none))
 (none))
 (none))
 (none))
 (none))
 (none))
 (none))
 (none))
 (none))
 (none))
 (none))
 (none))
 (none))
 (none))
 (some (Sum.inr (Ex.exit 0, [(AV.own 0, some (Ob.dls 6 37 n l true none)), (AV.pv (PV.int IntKind.i64 k), none)]))) := by kernel_rfl
theorem r_eqIs_eq (l : List ImT) (u : List ImT) (i : Int) : r_eqIs brC l u i =
 brC (decide (i < (↑(List.length l) : Int)))
 (brC (decide (0 ≤ i) && decide (i < (↑(List.length l) : Int)))
 (brC (Nat.ble 6 (List.length (List.drop (Int.toNat i * 6) (encIm l))) && (PV.isStr (List.headD (List.drop (Int.toNat i * 6) (encIm l)) PV.nilp) && (PV.isSl (List.headD (List.tail (List.drop (Int.toNat i * 6) (encIm l))) PV.nilp) && (PV.isBool (List.headD (List.tail (List.tail (List.drop (Int.toNat i * 6) (encIm l)))) PV.nilp) && (PV.isStr (List.headD (List.tail (List.tail (List.tail (List.drop (Int.toNat i * 6) (encIm l))))) PV.nilp) && (PV.isBool (List.headD (List.tail (List.tail (List.tail (List.tail (List.drop (Int.toNat i * 6) (encIm l)))))) PV.nilp) && (PV.isStr (List.headD (List.tail (List.tail (List.tail (List.tail (List.tail (List.drop (Int.toNat i * 6) (encIm l))))))) PV.nilp) && true && true) && true) && true) && true) && true) && true) && true)
 (brC (decide (0 ≤ i) && decide (i < (↑(List.length u) : Int)))
 (brC (Nat.ble 6 (List.length (List.drop (Int.toNat i * 6) (encIm u))) && (PV.isStr (List.headD (List.drop (Int.toNat i * 6) (encIm u)) PV.nilp) && (PV.isSl (List.headD (List.tail (List.drop (Int.toNat i * 6) (encIm u))) PV.nilp) && (PV.isBool (List.headD (List.tail (List.tail (List.drop (Int.toNat i * 6) (encIm u)))) PV.nilp) && (PV.isStr (List.headD (List.tail (List.tail (List.tail (List.drop (Int.toNat i * 6) (encIm u))))) PV.nilp) && (PV.isBool (List.headD (List.tail (List.tail (List.tail (List.tail (List.drop (Int.toNat i * 6) (encIm u)))))) PV.nilp) && (PV.isStr (List.headD (List.tail (List.tail (List.tail (List.tail (List.tail (List.drop (Int.toNat i * 6) (encIm u))))))) PV.nilp) && true && true) && true) && true) && true) && true) && true) && true)
 (brC (isIm (PV.agg [PV.str (PV.asStr (List.headD (List.drop (Int.toNat i * 6) (encIm l)) PV.nilp)), PV.sl (PV.slN (List.headD (List.tail (List.drop (Int.toNat i * 6) (encIm l))) PV.nilp)) (PV.slL (List.headD (List.tail (List.drop (Int.toNat i * 6) (encIm l))) PV.nilp)), PV.bool (PV.asBool (List.headD (List.tail (List.tail (List.drop (Int.toNat i * 6) (encIm l)))) PV.nilp)), PV.str (PV.asStr (List.headD (List.tail (List.tail (List.tail (List.drop (Int.toNat i * 6) (encIm l))))) PV.nilp)), PV.bool (PV.asBool (List.headD (List.tail (List.tail (List.tail (List.tail (List.drop (Int.toNat i * 6) (encIm l)))))) PV.nilp)), PV.str (PV.asStr (List.headD (List.tail (List.tail (List.tail (List.tail (List.tail (List.drop (Int.toNat i * 6) (encIm l))))))) PV.nilp))]) && isIm (PV.agg [PV.str (PV.asStr (List.headD (List.drop (Int.toNat i * 6) (encIm u)) PV.nilp)), PV.sl (PV.slN (List.headD (List.tail (List.drop (Int.toNat i * 6) (encIm u))) PV.nilp)) (PV.slL (List.headD (List.tail (List.drop (Int.toNat i * 6) (encIm u))) PV.nilp)), PV.bool (PV.asBool (List.headD (List.tail (List.tail (List.drop (Int.toNat i * 6) (encIm u)))) PV.nilp)), PV.str (PV.asStr (List.headD (List.tail (List.tail (List.tail (List.drop (Int.toNat i * 6) (encIm u))))) PV.nilp)), PV.bool (PV.asBool (List.headD (List.tail (List.tail (List.tail (List.tail (List.drop (Int.toNat i * 6) (encIm u)))))) PV.nilp)), PV.str (PV.asStr (List.headD (List.tail (List.tail (List.tail (List.tail (List.tail (List.drop (Int.toNat i * 6) (encIm u))))))) PV.nilp))]))
 (brC (!holds (asIm (PV.agg [PV.str (PV.asStr (List.headD (List.drop (Int.toNat i * 6) (encIm l)) PV.nilp)), PV.sl (PV.slN (List.headD (List.tail (List.drop (Int.toNat i * 6) (encIm l))) PV.nilp)) (PV.slL (List.headD (List.tail (List.drop (Int.toNat i * 6) (encIm l))) PV.nilp)), PV.bool (PV.asBool (List.headD (List.tail (List.tail (List.drop (Int.toNat i * 6) (encIm l)))) PV.nilp)), PV.str (PV.asStr (List.headD (List.tail (List.tail (List.tail (List.drop (Int.toNat i * 6) (encIm l))))) PV.nilp)), PV.bool (PV.asBool (List.headD (List.tail (List.tail (List.tail (List.tail (List.drop (Int.toNat i * 6) (encIm l)))))) PV.nilp)), PV.str (PV.asStr (List.headD (List.tail (List.tail (List.tail (List.tail (List.tail (List.drop (Int.toNat i * 6) (encIm l))))))) PV.nilp))]) = asIm (PV.agg [PV.str (PV.asStr (List.headD (List.drop (Int.toNat i * 6) (encIm u)) PV.nilp)), PV.sl (PV.slN (List.headD (List.tail (List.drop (Int.toNat i * 6) (encIm u))) PV.nilp)) (PV.slL (List.headD (List.tail (List.drop (Int.toNat i * 6) (encIm u))) PV.nilp)), PV.bool (PV.asBool (List.headD (List.tail (List.tail (List.drop (Int.toNat i * 6) (encIm u)))) PV.nilp)), PV.str (PV.asStr (List.headD (List.tail (List.tail (List.tail (List.drop (Int.toNat i * 6) (encIm u))))) PV.nilp)), PV.bool (PV.asBool (List.headD (List.tail (List.tail (List.tail (List.tail (List.drop (Int.toNat i * 6) (encIm u)))))) PV.nilp)), PV.str (PV.asStr (List.headD (List.tail (List.tail (List.tail (List.tail (List.tail (List.drop (Int.toNat i * 6) (encIm u))))))) PV.nilp))])))
 (some (Sum.inr (Ex.ret, [(AV.pv (PV.sl (List.length l) (encIm l)), none), (AV.pv (PV.bool false), none)])))
 (some (Sum.inl [(AV.pv (PV.sl (List.length l) (encIm l)), none), (AV.pv (PV.sl (List.length u) (encIm u)), none), (AV.pv (PV.int IntKind.i64 (IntKind.wrap IntKind.i64 (i + 1))), none)])))
 (none))
 (none))
 (none))
 (none))
 (none))
 (some (Sum.inr (Ex.exit 0, [(AV.pv (PV.sl (List.length l) (encIm l)), none), (AV.bad, none)]))) := by kernel_rfl
theorem q_eqIm_eq (x : ImT) (y : ImT) : q_eqIm brC x y =
 brC (!ByteArray.toList (ImT.name x) == ByteArray.toList (ImT.name y))
 (some ((IV.cv (CV.pv (PV.bool false)), [])))
 (brC (isL (PV.sl (List.length (ImT.subs x)) (List.map PV.str (ImT.subs x))) && isL (PV.sl (List.length (ImT.subs y)) (List.map PV.str (ImT.subs y))))
 (brC (!holds (asL (PV.sl (List.length (ImT.subs x)) (List.map PV.str (ImT.subs x))) = asL (PV.sl (List.length (ImT.subs y)) (List.map PV.str (ImT.subs y)))))
 (some ((IV.cv (CV.pv (PV.bool false)), [])))
 (brC (!ImT.had x == ImT.had y)
 (some ((IV.cv (CV.pv (PV.bool false)), [])))
 (brC (!ByteArray.toList (ImT.was x) == ByteArray.toList (ImT.was y))
 (some ((IV.cv (CV.pv (PV.bool false)), [])))
 (brC (!ImT.has x == ImT.has y)
 (some ((IV.cv (CV.pv (PV.bool false)), [])))
 (brC (!ByteArray.toList (ImT.is x) == ByteArray.toList (ImT.is y))
 (some ((IV.cv (CV.pv (PV.bool false)), [])))
 (some ((IV.cv (CV.pv (PV.bool true)), []))))))))
 (none)) := by kernel_rfl
theorem r_mkS_eq (l : List ByteArray) (k : Int) (i : Int) : r_mkS brC l k i =
 brC (decide (i < (↑(List.length l) : Int)))
 (brC (decide (1 ≤ k) && holds (k ≤ 1000000000))
 (brC (decide (0 ≤ i) && decide (i < (↑(List.length l) : Int)))
 (brC (Nat.beq (List.length [PV.str (mkV k)]) 1 && Nat.ble (Int.toNat i * 1 + 1) (List.length (List.map PV.str l)))
 (some (Sum.inl [(AV.own 0, some (Ob.lst 1 9 (List.length l) (List.take (Int.toNat i * 1) (List.map PV.str l) ++ [PV.str (mkV k)] ++ List.drop (Int.toNat i * 1 + 1) (List.map PV.str l)) true)), (AV.pv (PV.int IntKind.i64 (IntKind.wrap IntKind.i64 (k + 1))), none), (AV.pv (PV.int IntKind.i64 (IntKind.wrap IntKind.i64 (i + 1))), none)]))
 (none))
 (none))
 (none))
 (some (Sum.inr (Ex.exit 0, [(AV.own 0, some (Ob.lst 1 9 (List.length l) (List.map PV.str l) true)), (AV.pv (PV.int IntKind.i64 k), none)]))) := by kernel_rfl
theorem q_mkI0_eq : q_mkI0 brC =
 brC (Nat.beq 37 37 && Nat.beq 0 0 && Nat.beq 0 0 && nilB [] && 0 == 0 && 1 == 1)
 (some ((IV.cv (CV.pv (PV.int IntKind.i64 (Int.ofNat 1))), [[CV.lst 6 37 0 [] true]])))
 (none) := by kernel_rfl
end
section
open Go.RowKit
set_option linter.unusedVariables false
set_option linter.unusedSimpArgs false
set_option maxRecDepth 100000
theorem tmod10 (k : Nat) : Int.tmod (k : Int) 10 = ((k % 10 : Nat) : Int) := rfl
theorem tdiv10 (k : Nat) : Int.tdiv (k : Int) 10 = ((k / 10 : Nat) : Int) := rfl
theorem mkT_loop : ∀ (f k : Nat) (l : List UInt8), k < 10 ^ f → k ≤ 1000000000 → l.length + f ≤ 100 → LoopsTo (rdB brC Tryz.prog [] lp_mkT LO_mkT Tryz.f18 4 []) [aI k, aS (bs l)] (.exit 0, [aI 0, aS (bs (digL f k l))]) := by
  intro f
  induction f with
  | zero =>
    intro k l hk _ _
    obtain rfl : k = 0 := by simpa using hk
    refine .done _ _ ((r_mkT_eq _ _).trans ?_)
    rw [dF (by omega)]
    rfl
  | succ f ih =>
    intro k l hk hk2 hl
    unfold digL
    by_cases h0 : k = 0
    · subst h0
      rw [if_pos rfl]
      refine .done _ _ ((r_mkT_eq _ _).trans ?_)
      rw [dF (by omega)]
      rfl
    · rw [if_neg h0]
      have tree := r_mkT_eq (k : Int) (bs l)
      have w1 : IntKind.wrap .i64 (48 + ((k % 10 : Nat) : Int)) = ((48 + k % 10 : Nat) : Int) := by rw [wrapI (by omega) (by omega)]; omega
      have w2 : IntKind.wrap .i64 ((k / 10 : Nat) : Int) = ((k / 10 : Nat) : Int) := wrapI (by omega) (by omega)
      rw [tmod10, tdiv10, w1, w2, u8w, Int.toNat_natCast, UInt8.ofNat_toNat] at tree
      generalize hc : UInt8.ofNat (48 + k % 10) = c at tree ⊢
      have e1 : ({ data := #[c] } : ByteArray) ++ bs l = bs (c :: l) := bs_appK [c] l
      have e2 : ({ data := #[c] } : ByteArray).size = 1 := rfl
      have e3 : (bs l).size = l.length := bs_len l
      rw [e1, e2, e3, dT (show (k : Int) > 0 by omega), dT (show 1 + l.length ≤ 9223372036854775807 by omega)] at tree
      have := ih (k / 10) (c :: l) (by rw [Nat.pow_succ] at hk; omega) (by omega) (by rw [List.length_cons]; omega)
      exact .step _ _ _ tree this
theorem digL_len : ∀ (f k : Nat) (l : List UInt8), (digL f k l).length ≤ l.length + f
  | 0, k, l => Nat.le_refl _
  | f + 1, k, l => by
    unfold digL
    split
    · omega
    · have := digL_len f (k / 10) (UInt8.ofNat (48 + k % 10) :: l)
      rw [List.length_cons] at this
      omega
theorem mkV_eq (k : Int) : mkV k = bs (109 :: digL 20 k.toNat []) := hidS_eq _
theorem mkV_size (k : Int) : (mkV k).size ≤ 21 := by
  rw [mkV_eq, bs_len, List.length_cons]
  have := digL_len 20 k.toNat []
  rw [List.length_nil] at this
  omega
theorem ok_mkT : EntryOk Tryz.prog 18 E_mkT := entry_of mix (tab := []) trivial (lp := lp_mkT) (LO := LO_mkT) ⟨Tryz.func18, by kernel_rfl, by kernel_rfl⟩ (by kernel_rfl) fun ivs res bxs h => by
  unfold E_mkT at h
  split at h
  · rename_i k
    obtain ⟨hc, he⟩ := pick1 h
    cases he
    obtain ⟨k0, k1⟩ := andE hc
    have k0 := of_decide_eq_true k0
    refine ⟨oneLoop 4 (by kernel_rfl) (by kernel_rfl) (by kernel_rfl) ?_, (q_mkT_eq k).trans ?_⟩
    · intro ls e ls' hl
      replace hl : pickA (LO_mkT_4 ls) = some (e, ls') := hl
      unfold LO_mkT_4 at hl
      split at hl
      · rename_i k s
        obtain ⟨hc, he⟩ := pick1 hl
        cases he
        obtain ⟨hc, g2⟩ := andE hc
        obtain ⟨g0, g1⟩ := andE hc
        have g0 := of_decide_eq_true g0
        have g1 := holds_inv g1
        obtain ⟨m, rfl⟩ : ∃ m : Nat, k = (m : Int) := ⟨k.toNat, by omega⟩
        rw [size_zero (Nat.eq_of_beq_eq_true g2), hidS_eq, Int.toNat_natCast]
        exact mkT_loop 20 m [] (Nat.lt_of_le_of_lt (show m ≤ 1000000000 by omega) (by decide)) (by omega) (by decide)
      · cases hl
    · have hz : (hidS (bs (digL 20 k.toNat []))).size ≤ 20 := by
        rw [hidS_eq, bs_len]
        have := digL_len 20 k.toNat []
        rw [List.length_nil] at this
        omega
      rw [dF (show ¬ k ≤ 0 by omega), dT (show 0 ≤ k by omega), k1, dT (show 1 + (hidS (bs (digL 20 k.toNat []))).size ≤ 9223372036854775807 by omega), mkV_eq]
      have e : ({ data := #[109] } : ByteArray) ++ hidS (bs (digL 20 k.toNat [])) = bs (109 :: digL 20 k.toNat []) := by rw [hidS_eq]; exact bs_appK [109] _
      rw [e]
      rfl
  · cases h
theorem ok_kfb0 : EntriesOk Tryz.prog kfb0 := ⟨ok_mkT, trivial⟩
theorem eqSt_loop (l u : List ByteArray) (hlu : l.length = u.length) (hl : l.length ≤ 100000) : ∀ (m i : Nat), m + i = l.length → LoopsTo (rdB brC Tryz.prog [] lp_eqSt LO_eqSt Tryz.f37 4 []) [aP (pL l), aP (pL u), aI i] (if holds (l.drop i = u.drop i) = true then (.exit 0, [aP (pL l), aX]) else (.ret, [aP (pL l), aB false])) := by
  intro m
  induction m with
  | zero =>
    intro i hm
    rw [List.drop_eq_nil_of_le (show l.length ≤ i by omega), List.drop_eq_nil_of_le (show u.length ≤ i by omega), if_pos (holds_mk rfl)]
    refine .done _ _ ((r_eqSt_eq l u i).trans ?_)
    rw [dF (by omega)]
    rfl
  | succ m ih =>
    intro i hm
    have hi : i < l.length := by omega
    have hiu : i < u.length := by omega
    have tree := r_eqSt_eq l u i
    simp (disch := omega) only [dT, Int.toNat_natCast, drop_strs l i hi, drop_strs u i hiu, List.length_cons, List.headD_cons, PV.isStr, PV.asStr, blt0, wrap1, Bool.and_true] at tree
    have ih' := ih (i + 1) (by omega)
    rw [List.drop_eq_getElem_cons hi, List.drop_eq_getElem_cons hiu]
    cases hb : (ByteArray.toList l[i] == ByteArray.toList u[i]) with
    | true =>
      rw [hb] at tree
      have e : l[i] = u[i] := ByteArray.ext (Array.ext' (by rw [← ByteArray.toList_eq, ← ByteArray.toList_eq]; exact eq_of_beq hb))
      have e2 : holds (l[i] :: List.drop (i + 1) l = u[i] :: List.drop (i + 1) u) = holds (List.drop (i + 1) l = List.drop (i + 1) u) := by
        congr 1
        rw [e]
        exact propext ⟨fun h => by injection h, fun h => by rw [h]⟩
      rw [e2]
      exact .step _ _ _ tree ih'
    | false =>
      rw [hb] at tree
      rw [if_neg (fun h => by
        have := holds_inv h
        injection this with h1 _
        rw [h1, beq_self_eq_true] at hb
        cases hb)]
      exact .done _ _ tree
theorem ok_eqSt : EntryOk Tryz.prog 37 E_eqSt := entry_of mix (tab := []) trivial (lp := lp_eqSt) (LO := LO_eqSt) ⟨Tryz.func37, by kernel_rfl, by kernel_rfl⟩ (by kernel_rfl) fun ivs res bxs h => by
  unfold E_eqSt at h
  split at h
  · rename_i p q
    obtain ⟨hc, he⟩ := pick1 h
    cases he
    obtain ⟨k0, k1⟩ := andE hc
    obtain ⟨l, rfl, h_l⟩ := isL_inv k0
    obtain ⟨u, rfl, h_u⟩ := isL_inv k1
    have e_l : asL (pL l) = l := asL_mk l
    have e_u : asL (pL u) = u := asL_mk u
    have i_l : isL (pL l) = true := isL_mk h_l
    have i_u : isL (pL u) = true := isL_mk h_u
    rw [e_l, e_u]
    refine ⟨oneLoop 4 (by kernel_rfl) (by kernel_rfl) (by kernel_rfl) ?_, ?_⟩
    · intro ls e ls' hl
      replace hl : pickA (LO_eqSt_4 ls) = some (e, ls') := hl
      unfold LO_eqSt_4 at hl
      split at hl
      · rename_i p q i
        have key : (isL p && isL q && (i == 0) && decide ((asL p).length = (asL q).length)) = true → LoopsTo (rdB brC Tryz.prog [] lp_eqSt LO_eqSt Tryz.f37 4 []) [aP p, aP q, aI i] (if holds (asL p = asL q) = true then (.exit 0, [aP p, aX]) else (.ret, [aP p, aB false])) := fun hc => by
          obtain ⟨hc, g3⟩ := andE hc
          obtain ⟨hc, g2⟩ := andE hc
          obtain ⟨g0, g1⟩ := andE hc
          obtain ⟨t, rfl, h_t⟩ := isL_inv g0
          obtain ⟨v, rfl, h_v⟩ := isL_inv g1
          have e_t : asL (pL t) = t := asL_mk t
          have e_v : asL (pL v) = v := asL_mk v
          rw [e_t, e_v] at g3 ⊢
          rw [eq_of_beq g2]
          exact eqSt_loop t v (of_decide_eq_true g3) h_t.1 t.length 0 rfl
        rcases pick2 hl with ⟨hc, he⟩ | ⟨hn, hc, he⟩
        · cases he
          obtain ⟨hc, k⟩ := andE hc
          have := key hc
          rw [if_pos k] at this
          exact this
        · cases he
          have := key hc
          rw [hc, Bool.true_and] at hn
          rw [hn, if_neg Bool.false_ne_true] at this
          exact this
      · cases hl
    · have tree := q_eqSt_eq l u
      rw [i_l, i_u, e_l, e_u] at tree
      by_cases hlen : l.length = u.length
      · have hb : (((l.length : Nat) : Int) == ((u.length : Nat) : Int)) = true := beq_iff_eq.2 (by omega)
        have hb2 : (((l.length : Nat) : Int) != ((u.length : Nat) : Int)) = false := by unfold bne; rw [hb]; rfl
        simp only [hb, hb2, decide_eq_true hlen, Bool.and_true, Bool.true_and, beq_self_eq_true] at tree
        cases hh : holds (l = u) with
        | true => rw [hh] at tree; exact tree.trans rfl
        | false => rw [hh] at tree; exact tree.trans rfl
      · have hb : (((l.length : Nat) : Int) == ((u.length : Nat) : Int)) = false := beq_eq_false_iff_ne.2 (by omega)
        have hb2 : (((l.length : Nat) : Int) != ((u.length : Nat) : Int)) = true := by unfold bne; rw [hb]; rfl
        have hh : holds (l = u) = false := @decide_eq_false _ (Classical.propDecidable _) fun e => hlen (by rw [e])
        simp only [hb, hb2] at tree
        rw [hh]
        exact tree.trans rfl
  · cases h
theorem ba_tl {a b : ByteArray} (h : a.toList = b.toList) : a = b := ByteArray.ext (Array.ext' (by rw [← ByteArray.toList_eq, ← ByteArray.toList_eq]; exact h))
theorem imEq (x y : ImT) : holds (x = y) = ((x.name.toList == y.name.toList) && (holds (x.subs = y.subs) && ((x.had == y.had) && ((x.was.toList == y.was.toList) && ((x.has == y.has) && (x.is.toList == y.is.toList)))))) := by
  rw [Bool.eq_iff_iff]
  constructor
  · intro h
    have e := holds_inv h
    subst e
    rw [holds_mk rfl]
    simp only [beq_self_eq_true, Bool.and_true]
  · intro h
    simp only [Bool.and_eq_true, beq_iff_eq] at h
    obtain ⟨h1, h2, h3, h4, h5, h6⟩ := h
    have h2 := holds_inv h2
    cases x
    cases y
    dsimp only at h1 h2 h3 h4 h5 h6
    rw [ba_tl h1, h2, h3, ba_tl h4, h5, ba_tl h6]
    exact holds_mk rfl
theorem ok_kfb2 : EntriesOk Tryz.prog kfb2 := ⟨ok_eqSt, trivial⟩
theorem ok_eqIm : EntryOk Tryz.prog 17 E_eqIm := entry_of mix ok_kfb2 (lp := []) (LO := LO0) ⟨Tryz.func17, by kernel_rfl, by kernel_rfl⟩ (by kernel_rfl) fun ivs res bxs h => by
  unfold E_eqIm at h
  split at h
  · rename_i p q
    obtain ⟨hc, he⟩ := pick1 h
    cases he
    obtain ⟨k0, k1⟩ := andE hc
    obtain ⟨x, rfl, h_x⟩ := isE_inv k0
    obtain ⟨y, rfl, h_y⟩ := isE_inv k1
    have e_x : asIm (pIm x) = x := asIm_mk x
    have e_y : asIm (pIm y) = y := asIm_mk y
    rw [e_x, e_y, imEq]
    refine ⟨noLoop (by kernel_rfl), (q_eqIm_eq x y).trans ?_⟩
    have i1 := isL_mk h_x.2.1
    have i2 := isL_mk h_y.2.1
    simp only [isL, i1, i2, asL_mk, Bool.and_true]
    generalize (x.name.toList == y.name.toList) = a
    generalize holds (x.subs = y.subs) = b
    generalize (x.had == y.had) = c
    generalize (x.was.toList == y.was.toList) = d
    generalize (x.has == y.has) = e
    generalize (x.is.toList == y.is.toList) = f
    cases a <;> cases b <;> cases c <;> cases d <;> cases e <;> cases f <;> rfl
  · cases h
theorem ok_kfb3 : EntriesOk Tryz.prog kfb3 := ⟨ok_eqIm, trivial⟩
theorem eqIs_loop (l u : List ImT) (h_l : shIms l) (h_u : shIms u) (hlu : l.length = u.length) : ∀ (m i : Nat), m + i = l.length → LoopsTo (rdB brC Tryz.prog kfb3 lp_eqSt LO_eqIs Tryz.f6 4 []) [aP (pIms l), aP (pIms u), aI i] (if holds (l.drop i = u.drop i) = true then (.exit 0, [aP (pIms l), aX]) else (.ret, [aP (pIms l), aB false])) := by
  have hl := h_l.1
  intro m
  induction m with
  | zero =>
    intro i hm
    rw [List.drop_eq_nil_of_le (show l.length ≤ i by omega), List.drop_eq_nil_of_le (show u.length ≤ i by omega), if_pos (holds_mk rfl)]
    refine .done _ _ ((r_eqIs_eq l u i).trans ?_)
    rw [dF (by omega)]
    rfl
  | succ m ih =>
    intro i hm
    have hi : i < l.length := by omega
    have hiu : i < u.length := by omega
    have tree := r_eqIs_eq l u i
    simp (disch := first | omega | rfl) only [isIm, isIm_mk (shIm_at h_l hi), isIm_mk (shIm_at h_u hiu), asIm_mk, dT, Int.toNat_natCast, drop_encIm l i hi, drop_encIm u i hiu, List.length_cons, List.headD_cons, List.tail_cons, PV.isStr, PV.asStr, PV.isSl, PV.slN, PV.slL, PV.isBool, PV.asBool, ble1, ble2, ble3, ble4, ble5, ble6, blt0, wrap1, Bool.and_true, Bool.true_and] at tree
    have ih' := ih (i + 1) (by omega)
    rw [List.drop_eq_getElem_cons hi, List.drop_eq_getElem_cons hiu]
    cases hb : holds (l[i] = u[i]) with
    | true =>
      rw [hb] at tree
      have e : l[i] = u[i] := holds_inv hb
      have e2 : holds (l[i] :: List.drop (i + 1) l = u[i] :: List.drop (i + 1) u) = holds (List.drop (i + 1) l = List.drop (i + 1) u) := by
        congr 1
        rw [e]
        exact propext ⟨fun h => by injection h, fun h => by rw [h]⟩
      rw [e2]
      exact .step _ _ _ tree ih'
    | false =>
      rw [hb] at tree
      rw [if_neg (fun h => by
        have := holds_inv h
        injection this with h1 _
        rw [holds_mk h1] at hb
        cases hb)]
      exact .done _ _ tree
theorem ok_eqIs : EntryOk Tryz.prog 6 E_eqIs := entry_of mix ok_kfb3 (lp := lp_eqSt) (LO := LO_eqIs) ⟨Tryz.func6, by kernel_rfl, by kernel_rfl⟩ (by kernel_rfl) fun ivs res bxs h => by
  unfold E_eqIs at h
  split at h
  · rename_i p q
    obtain ⟨hc, he⟩ := pick1 h
    cases he
    obtain ⟨k0, k1⟩ := andE hc
    obtain ⟨l, rfl, h_l⟩ := isE_inv k0
    obtain ⟨u, rfl, h_u⟩ := isE_inv k1
    have e_l : asIms (pIms l) = l := asIms_mk l
    have e_u : asIms (pIms u) = u := asIms_mk u
    have i_l : isIms (pIms l) = true := isIms_mk h_l
    have i_u : isIms (pIms u) = true := isIms_mk h_u
    rw [e_l, e_u]
    refine ⟨oneLoop 4 (by kernel_rfl) (by kernel_rfl) (by kernel_rfl) ?_, ?_⟩
    · intro ls e ls' hl
      replace hl : pickA (LO_eqIs_4 ls) = some (e, ls') := hl
      unfold LO_eqIs_4 at hl
      split at hl
      · rename_i p q i
        have key : (isIms p && isIms q && (i == 0) && decide ((asIms p).length = (asIms q).length)) = true → LoopsTo (rdB brC Tryz.prog kfb3 lp_eqSt LO_eqIs Tryz.f6 4 []) [aP p, aP q, aI i] (if holds (asIms p = asIms q) = true then (.exit 0, [aP p, aX]) else (.ret, [aP p, aB false])) := fun hc => by
          obtain ⟨hc, g3⟩ := andE hc
          obtain ⟨hc, g2⟩ := andE hc
          obtain ⟨g0, g1⟩ := andE hc
          obtain ⟨t, rfl, h_t⟩ := isE_inv g0
          obtain ⟨v, rfl, h_v⟩ := isE_inv g1
          have e_t : asIms (pIms t) = t := asIms_mk t
          have e_v : asIms (pIms v) = v := asIms_mk v
          rw [e_t, e_v] at g3 ⊢
          rw [eq_of_beq g2]
          exact eqIs_loop t v h_t h_v (of_decide_eq_true g3) t.length 0 rfl
        rcases pick2 hl with ⟨hc, he⟩ | ⟨hn, hc, he⟩
        · cases he
          obtain ⟨hc, k⟩ := andE hc
          have := key hc
          rw [if_pos k] at this
          exact this
        · cases he
          have := key hc
          rw [hc, Bool.true_and] at hn
          rw [hn, if_neg Bool.false_ne_true] at this
          exact this
      · cases hl
    · have tree := q_eqIs_eq l u
      rw [i_l, i_u, e_l, e_u] at tree
      by_cases hlen : l.length = u.length
      · have hb : (((l.length : Nat) : Int) == ((u.length : Nat) : Int)) = true := beq_iff_eq.2 (by omega)
        have hb2 : (((l.length : Nat) : Int) != ((u.length : Nat) : Int)) = false := by unfold bne; rw [hb]; rfl
        simp only [hb, hb2, decide_eq_true hlen, Bool.and_true, Bool.true_and, beq_self_eq_true] at tree
        cases hh : holds (l = u) with
        | true => rw [hh] at tree; exact tree.trans rfl
        | false => rw [hh] at tree; exact tree.trans rfl
      · have hb : (((l.length : Nat) : Int) == ((u.length : Nat) : Int)) = false := beq_eq_false_iff_ne.2 (by omega)
        have hb2 : (((l.length : Nat) : Int) != ((u.length : Nat) : Int)) = true := by unfold bne; rw [hb]; rfl
        have hh : holds (l = u) = false := @decide_eq_false _ (Classical.propDecidable _) fun e => hlen (by rw [e])
        simp only [hb, hb2] at tree
        rw [hh]
        exact tree.trans rfl
  · cases h
theorem mkL_len : ∀ (k : Int) (l : List ByteArray), (mkL k l).length = l.length
  | k, [] => rfl
  | k, x :: t => by unfold mkL; rw [List.length_cons, List.length_cons, mkL_len (k + 1) t]
theorem mkS_loop : ∀ (m i : Nat) (l : List ByteArray) (k : Int), m + i = l.length → l.length ≤ 100000 → 1 ≤ k → k ≤ 900000000 + i →
    LoopsTo (rdB brC Tryz.prog kfb0 lp_mkS LO_mkS Tryz.f19 2 [0]) [aWL l, aI k, aI i] (.exit 0, [aWL (l.take i ++ mkL k (l.drop i)), aI (k + m)]) := by
  intro m
  induction m with
  | zero =>
    intro i l k hm hl h1 h2
    rw [List.drop_eq_nil_of_le (show l.length ≤ i by omega), List.take_of_length_le (show l.length ≤ i by omega), show mkL k [] = [] from rfl, List.append_nil, show k + ((0 : Nat) : Int) = k by omega]
    refine .done _ _ ((r_mkS_eq l k i).trans ?_)
    rw [dF (by omega)]
    rfl
  | succ m ih =>
    intro i l k hm hl h1 h2
    have hi : i < l.length := by omega
    have tree := r_mkS_eq l k i
    have w1 : IntKind.wrap .i64 (k + 1) = k + 1 := wrapI (by omega) (by omega)
    have q1 : holds (k ≤ 1000000000) = true := holds_mk (by omega)
    have q2 : Nat.ble (i * 1 + 1) (List.map PV.str l).length = true := Nat.ble_eq_true_of_le (by rw [List.length_map]; omega)
    have e1 : List.take (i * 1) (List.map PV.str l) ++ [PV.str (mkV k)] ++ List.drop (i * 1 + 1) (List.map PV.str l) = List.map PV.str (l.take i ++ [mkV k] ++ l.drop (i + 1)) := by
      rw [Nat.mul_one, List.map_append, List.map_append, List.map_take, List.map_drop]
      rfl
    have e2 : (l.take i ++ [mkV k] ++ l.drop (i + 1)).length = l.length := by
      rw [List.length_append, List.length_append, List.length_take, List.length_drop, List.length_singleton]
      omega
    have e3 : (l.take i ++ [mkV k] ++ l.drop (i + 1)).take (i + 1) = l.take i ++ [mkV k] := by
      rw [List.take_left' (by rw [List.length_append, List.length_take, List.length_singleton]; omega)]
    have e4 : (l.take i ++ [mkV k] ++ l.drop (i + 1)).drop (i + 1) = l.drop (i + 1) := by
      rw [List.drop_left' (by rw [List.length_append, List.length_take, List.length_singleton]; omega)]
    rw [Int.toNat_natCast, w1, q1, q2, e1] at tree
    simp (disch := omega) only [dT, wrap1, Bool.and_true, show Nat.beq (List.length [PV.str (mkV k)]) 1 = true from rfl] at tree
    have := ih (i + 1) (l.take i ++ [mkV k] ++ l.drop (i + 1)) (k + 1) (by rw [e2]; omega) (by rw [e2]; omega) (by omega) (by omega)
    rw [e3, e4] at this
    rw [List.drop_eq_getElem_cons hi, show mkL k (l[i] :: l.drop (i + 1)) = [mkV k] ++ mkL (k + 1) (l.drop (i + 1)) from rfl, show k + ((m + 1 : Nat) : Int) = k + 1 + (m : Int) by omega, ← List.append_assoc]
    unfold aWL at this ⊢
    rw [e2] at this
    exact .step _ _ _ tree this
theorem ok_mkS : EntryOk Tryz.prog 19 E_mkS := entry_of mix ok_kfb0 (lp := lp_mkS) (LO := LO_mkS) ⟨Tryz.func19, by kernel_rfl, by kernel_rfl⟩ (by kernel_rfl) fun ivs res bxs h => by
  unfold E_mkS at h
  split at h
  · rename_i e n l k
    obtain ⟨hc, he⟩ := pick1 h
    cases he
    obtain ⟨hc, k3⟩ := andE hc
    obtain ⟨hc, k2⟩ := andE hc
    obtain ⟨k0, k1⟩ := andE hc
    obtain ⟨t, q_t, h_t⟩ := isE_inv k0
    injection q_t with qa qb
    subst qa
    subst qb
    obtain rfl := Nat.eq_of_beq_eq_true k1
    have e_t : asL (.sl t.length (t.map .str)) = t := asL_mk t
    refine ⟨oneLoop 2 (by kernel_rfl) (by kernel_rfl) (by kernel_rfl) ?_, (q_mkS_eq t k).trans ?_⟩
    · intro ls e ls' hl
      replace hl : pickA (LO_mkS_2 ls) = some (e, ls') := hl
      unfold LO_mkS_2 at hl
      split at hl
      · rename_i x e n l k i
        obtain ⟨hc, he⟩ := pick1 hl
        cases he
        obtain ⟨hc, g5⟩ := andE hc
        obtain ⟨hc, g4⟩ := andE hc
        obtain ⟨hc, g3⟩ := andE hc
        obtain ⟨hc, g2⟩ := andE hc
        obtain ⟨g0, g1⟩ := andE hc
        obtain ⟨t, q_t, h_t⟩ := isE_inv g0
        injection q_t with qa qb
        subst qa
        subst qb
        have e_t : asL (.sl t.length (t.map .str)) = t := asL_mk t
        obtain rfl := Nat.eq_of_beq_eq_true g1
        obtain rfl := Nat.eq_of_beq_eq_true g2
        obtain rfl := eq_of_beq g3
        rw [e_t]
        have g5 := holds_inv g5
        have := mkS_loop t.length 0 t k rfl h_t.1 (of_decide_eq_true g4) (by omega)
        rw [List.take_zero, List.nil_append, List.drop_zero] at this
        exact this
      · cases hl
    · rw [e_t, k0, k2, k3, mkL_len, Nat.beq_refl t.length]
      rfl
  · cases h
def c6 (pre : List PV) (a b c d e f : PV) (post : List PV) : List PV := pre ++ a :: b :: c :: d :: e :: f :: post
theorem upd_at {pre : List PV} {i : Nat} (h : pre.length = i * 6) (j : Nat) (mid : List PV) (x : PV) : List.take (i * 6 + j) (pre ++ mid) ++ [x] ++ List.drop (i * 6 + j + 1) (pre ++ mid) = pre ++ (mid.take j ++ [x] ++ mid.drop (j + 1)) := by
  rw [← h, List.take_length_add_append, Nat.add_assoc, List.drop_length_add_append]
  simp only [List.append_assoc]
theorem c6_u0 {pre : List PV} {i : Nat} (h : pre.length = i * 6) (a b c d e f x : PV) (post : List PV) : List.take (i * 6 + 0) (c6 pre a b c d e f post) ++ [x] ++ List.drop (i * 6 + 0 + 1) (c6 pre a b c d e f post) = c6 pre x b c d e f post := upd_at h 0 _ x
theorem c6_u1 {pre : List PV} {i : Nat} (h : pre.length = i * 6) (a b c d e f x : PV) (post : List PV) : List.take (i * 6 + 1) (c6 pre a b c d e f post) ++ [x] ++ List.drop (i * 6 + 1 + 1) (c6 pre a b c d e f post) = c6 pre a x c d e f post := upd_at h 1 _ x
theorem c6_u2 {pre : List PV} {i : Nat} (h : pre.length = i * 6) (a b c d e f x : PV) (post : List PV) : List.take (i * 6 + 2) (c6 pre a b c d e f post) ++ [x] ++ List.drop (i * 6 + 2 + 1) (c6 pre a b c d e f post) = c6 pre a b x d e f post := upd_at h 2 _ x
theorem c6_u3 {pre : List PV} {i : Nat} (h : pre.length = i * 6) (a b c d e f x : PV) (post : List PV) : List.take (i * 6 + 3) (c6 pre a b c d e f post) ++ [x] ++ List.drop (i * 6 + 3 + 1) (c6 pre a b c d e f post) = c6 pre a b c x e f post := upd_at h 3 _ x
theorem c6_u4 {pre : List PV} {i : Nat} (h : pre.length = i * 6) (a b c d e f x : PV) (post : List PV) : List.take (i * 6 + 4) (c6 pre a b c d e f post) ++ [x] ++ List.drop (i * 6 + 4 + 1) (c6 pre a b c d e f post) = c6 pre a b c d x f post := upd_at h 4 _ x
theorem c6_u5 {pre : List PV} {i : Nat} (h : pre.length = i * 6) (a b c d e f x : PV) (post : List PV) : List.take (i * 6 + 5) (c6 pre a b c d e f post) ++ [x] ++ List.drop (i * 6 + 5 + 1) (c6 pre a b c d e f post) = c6 pre a b c d e x post := upd_at h 5 _ x
theorem c6_len {pre : List PV} {i : Nat} (h : pre.length = i * 6) (a b c d e f : PV) (post : List PV) : (c6 pre a b c d e f post).length = i * 6 + 6 + post.length := by
  unfold c6
  rw [List.length_append, h]
  simp only [List.length_cons]
  omega
theorem c6_b {pre : List PV} {i : Nat} (h : pre.length = i * 6) (a b c d e f : PV) (post : List PV) (j : Nat) (hj : j ≤ 5) : Nat.ble (i * 6 + j + 1) (c6 pre a b c d e f post).length = true := Nat.ble_eq_true_of_le (by rw [c6_len h]; omega)
theorem c6_l {pre : List PV} {i : Nat} (h : pre.length = i * 6) (a b c d e f : PV) (post : List PV) : Nat.blt (i * 6 + 1) (c6 pre a b c d e f post).length = true := Nat.ble_eq_true_of_le (by rw [c6_len h]; omega)
theorem c6_h {pre : List PV} {i : Nat} (h : pre.length = i * 6) (a b c d e f : PV) (post : List PV) : List.headD (List.drop (i * 6 + 1) (c6 pre a b c d e f post)) PV.nilp = b := by
  unfold c6
  rw [← h, List.drop_length_add_append]
  rfl
theorem mod6 (i j : Nat) (h : j < 6) : (i * 6 + j) % 6 = j := by omega
theorem im_noKid0 (i : Nat) : noKid 37 6 (i * 6 + 0) = true := by
  unfold noKid
  rw [mod6 i 0 (by decide)]
  kernel_rfl
theorem im_noKid2 (i : Nat) : noKid 37 6 (i * 6 + 2) = true := by
  unfold noKid
  rw [mod6 i 2 (by decide)]
  kernel_rfl
theorem im_noKid3 (i : Nat) : noKid 37 6 (i * 6 + 3) = true := by
  unfold noKid
  rw [mod6 i 3 (by decide)]
  kernel_rfl
theorem im_noKid4 (i : Nat) : noKid 37 6 (i * 6 + 4) = true := by
  unfold noKid
  rw [mod6 i 4 (by decide)]
  kernel_rfl
theorem im_noKid5 (i : Nat) : noKid 37 6 (i * 6 + 5) = true := by
  unfold noKid
  rw [mod6 i 5 (by decide)]
  kernel_rfl
theorem im_isKid (i : Nat) : isKid 37 6 (i * 6 + 1) 1 9 = true := by
  unfold isKid
  rw [mod6 i 1 (by decide)]
  kernel_rfl
theorem mkIs_len : ∀ (k : Int) (l : List ImT), (mkIs k l).length = l.length
  | k, [] => rfl
  | k, x :: t => by unfold mkIs; rw [List.length_cons, List.length_cons, mkIs_len _ t]
theorem mkI_loop (n : Nat) (hn : n ≤ 255) : ∀ (l : List ImT) (i : Nat) (pre : List PV) (k : Int), i + l.length = n → pre.length = i * 6 → (∀ x ∈ l, shIm x) → 1 ≤ k → k ≤ 1 + 100010 * i →
    LoopsTo (rdB brC Tryz.prog kfb1 lp_mkI LO_mkI Tryz.f7 2 [0]) [aWI (pre ++ encIm l) n, aI k, aI i] (.exit 0, [aWI (pre ++ encIm (mkIs k l)) n, aI (mkE k l)]) := by
  intro l
  induction l with
  | nil =>
    intro i pre k hi hp hl h1 h2
    refine .done _ _ ((r_mkI_eq _ _ _ _).trans ?_)
    dsimp only [zza3, zza2, zza1, zza0]
    rw [List.length_nil] at hi
    rw [dF (by omega)]
    rfl
  | cons x t ih =>
    intro i pre k hi hp hl h1 h2
    rw [List.length_cons] at hi
    have hx := hl x (List.mem_cons_self ..)
    have hz : x.subs.length ≤ 100000 := hx.2.1.1
    have tree := r_mkI_eq n (c6 pre (.str x.name) (.sl x.subs.length (x.subs.map .str)) (.bool x.had) (.str x.was) (.bool x.has) (.str x.is) (encIm t)) k i
    dsimp only [zza3, zza2, zza1, zza0] at tree
    have wa : IntKind.wrap .i64 (k + 1) = k + 1 := wrapI (by omega) (by omega)
    have wb : IntKind.wrap .i64 (k + 1 + (x.subs.length : Int) + 1) = k + 2 + (x.subs.length : Int) := by rw [wrapI (by omega) (by omega)]; omega
    have wc : IntKind.wrap .i64 (k + 2 + (x.subs.length : Int) + 1) = k + 3 + (x.subs.length : Int) := by rw [wrapI (by omega) (by omega)]; omega
    have wd : IntKind.wrap .i64 (k + 3 + (x.subs.length : Int) + 1) = k + 4 + (x.subs.length : Int) := by rw [wrapI (by omega) (by omega)]; omega
    have we : IntKind.wrap .i64 (k + 4 + (x.subs.length : Int) + 1) = k + 5 + (x.subs.length : Int) := by rw [wrapI (by omega) (by omega)]; omega
    have h0 : holds (k ≤ 1000000000) = true := holds_mk (by omega)
    have h3 : holds (k + 1 ≤ 900000000) = true := holds_mk (by omega)
    have h4 : holds (k + 2 + (x.subs.length : Int) ≤ 1000000000) = true := holds_mk (by omega)
    have h5 : holds (k + 4 + (x.subs.length : Int) ≤ 1000000000) = true := holds_mk (by omega)
    have il : isE pL shL (PV.sl x.subs.length (x.subs.map .str)) = true := isL_mk hx.2.1
    have al : asE pL (PV.sl x.subs.length (x.subs.map .str)) = x.subs := asL_mk x.subs
    have d0 : decide ((i : Int) < (n : Int)) = true := dT (by omega)
    have d1 : decide (0 ≤ (i : Int)) = true := dT (by omega)
    have d2 : decide (1 ≤ k) = true := dT h1
    have d3 : decide (1 ≤ k + 1) = true := dT (by omega)
    have d4 : decide (1 ≤ k + 2 + (x.subs.length : Int)) = true := dT (by omega)
    have d5 : decide (1 ≤ k + 4 + (x.subs.length : Int)) = true := dT (by omega)
    simp only [Int.toNat_natCast, d0, d1, d2, h0, wa, wrap1 (show i ≤ 2305843009213693952 by omega), c6_u0 hp, c6_u1 hp, c6_u2 hp, c6_u3 hp, c6_u4 hp, c6_u5 hp, c6_b hp _ _ _ _ _ _ _ 0 (by decide), c6_b hp _ _ _ _ _ _ _ 1 (by decide), c6_b hp _ _ _ _ _ _ _ 2 (by decide), c6_b hp _ _ _ _ _ _ _ 3 (by decide), c6_b hp _ _ _ _ _ _ _ 4 (by decide), c6_b hp _ _ _ _ _ _ _ 5 (by decide), c6_l hp, c6_h hp, PV.isSl, PV.slN, PV.slL, im_noKid0 i, im_noKid2 i, im_noKid3 i, im_noKid4 i, im_noKid5 i, im_isKid i, isL, asL, il, al, Nat.beq_refl, mkL_len, wb, wc, wd, we, d3, d4, d5, h3, h4, h5, Bool.and_true, Bool.true_and] at tree
    have := ih (i + 1) (pre ++ [.str (mkV k), .sl x.subs.length ((mkL (k + 1) x.subs).map .str), .bool (Int.tmod (k + 1 + (x.subs.length : Int)) 3 == 0), .str (mkV (k + 2 + x.subs.length)), .bool (Int.tmod (k + 3 + (x.subs.length : Int)) 3 == 0), .str (mkV (k + 4 + x.subs.length))]) (k + 5 + x.subs.length) (by omega) (by rw [List.length_append, hp]; simp only [List.length_cons, List.length_nil]; omega) (fun y hy => hl y (List.mem_cons_of_mem _ hy)) (by omega) (by omega)
    rw [List.append_assoc, List.append_assoc] at this
    have e : pre ++ encIm (mkIs k (x :: t)) = pre ++ ([.str (mkV k), .sl x.subs.length ((mkL (k + 1) x.subs).map .str), .bool (Int.tmod (k + 1 + (x.subs.length : Int)) 3 == 0), .str (mkV (k + 2 + x.subs.length)), .bool (Int.tmod (k + 3 + (x.subs.length : Int)) 3 == 0), .str (mkV (k + 4 + x.subs.length))] ++ encIm (mkIs (k + 5 + x.subs.length) t)) := by
      rw [show mkIs k (x :: t) = mkI k x :: mkIs (k + 5 + x.subs.length) t from rfl, show ∀ (y : ImT) (u : List ImT), encIm (y :: u) = [PV.str y.name, PV.sl y.subs.length (y.subs.map PV.str), PV.bool y.had, PV.str y.was, PV.bool y.has, PV.str y.is] ++ encIm u from fun _ _ => rfl]
      simp only [mkI, mkL_len]
      rfl
    rw [e]
    exact .step _ _ _ tree this
theorem pick_or' {α : Type} {l m : List (Bool × α)} {q : α} (h : pickA (l ++ m) = some q) : pickA l = some q ∨ pickA m = some q := by
  induction l with
  | nil => exact .inr h
  | cons a t ih =>
    obtain ⟨c, r⟩ := a
    cases c with
    | true => exact .inl h
    | false => exact ih h
theorem entry_or' {P : Program} {g : FuncId} {E1 E2 : Entry} (h1 : EntryOk P g E1) (h2 : EntryOk P g E2) : EntryOk P g (fun ivs => E1 ivs ++ E2 ivs) :=
  ⟨h1.1, fun ivs res bxs h => (pick_or' h).elim (h1.2 ivs res bxs) (h2.2 ivs res bxs)⟩
theorem ok_kfb1 : EntriesOk Tryz.prog kfb1 := ⟨ok_mkS, ok_mkT, trivial⟩
theorem loops_mkI : ∀ b ∈ loopsIn (bodyOf Tryz.f7), LoopOk Tryz.prog (tabL kfb1) (OL lp_mkI) Tryz.f7.ntmps (pbOf [0]) LO_mkI b := by
  refine oneLoop 2 (by kernel_rfl) (by kernel_rfl) (by kernel_rfl) ?_
  intro ls e ls' hl
  replace hl : pickA (LO_mkI_2 ls) = some (e, ls') := hl
  unfold LO_mkI_2 at hl
  split at hl
  · rename_i x e n l k i
    obtain ⟨hc, he⟩ := pick1 hl
    cases he
    obtain ⟨hc, g5⟩ := andE hc
    obtain ⟨hc, g4⟩ := andE hc
    obtain ⟨hc, g3⟩ := andE hc
    obtain ⟨hc, g2⟩ := andE hc
    obtain ⟨g0, g1⟩ := andE hc
    obtain ⟨t, q_t, h_t⟩ := isE_inv g0
    injection q_t with qa qb
    subst qa
    subst qb
    have e_t : asE pIms (.sl t.length (encIm t)) = t := asIms_mk t
    obtain rfl := Nat.eq_of_beq_eq_true g1
    obtain rfl := Nat.eq_of_beq_eq_true g2
    obtain rfl := eq_of_beq g3
    obtain rfl := eq_of_beq g4
    unfold asIms
    rw [e_t]
    exact mkI_loop t.length (of_decide_eq_true g5) t 0 [] 1 (by omega) rfl h_t.2 (by decide) (by decide)
  · rename_i x e n l k i
    obtain ⟨hc, he⟩ := pick1 hl
    cases he
    obtain ⟨hc, g5⟩ := andE hc
    obtain ⟨hc, g4⟩ := andE hc
    obtain ⟨hc, g3⟩ := andE hc
    obtain ⟨hc, g2⟩ := andE hc
    obtain ⟨g0, g1⟩ := andE hc
    obtain rfl := Nat.eq_of_beq_eq_true g0
    obtain rfl := Nat.eq_of_beq_eq_true g1
    obtain rfl := Nat.eq_of_beq_eq_true g2
    obtain rfl := nilB_inv g3
    obtain rfl := eq_of_beq g4
    obtain rfl := eq_of_beq g5
    refine .done _ _ ((r_mkI0_eq 1 0).trans ?_)
    rw [dF (by omega)]
    rfl
  · cases hl
theorem loops_mkI1 : ∀ b ∈ loopsIn (bodyOf Tryz.f7), LoopOk Tryz.prog (tabL kfb1) (OL lp_mkI) Tryz.f7.ntmps (pbOf []) LO_mkI1 b := by
  refine oneLoop 2 (by kernel_rfl) (by kernel_rfl) (by kernel_rfl) ?_
  intro ls e ls' hl
  unfold LO_mkI1 at hl
  split at hl
  · rename_i n l k i
    obtain ⟨hc, he⟩ := pick1 hl
    cases he
    obtain ⟨hc, g3⟩ := andE hc
    obtain ⟨hc, g2⟩ := andE hc
    obtain ⟨g0, g1⟩ := andE hc
    obtain rfl := Nat.eq_of_beq_eq_true g0
    obtain rfl := nilB_inv g1
    obtain rfl := eq_of_beq g2
    obtain rfl := eq_of_beq g3
    refine .done _ _ ((r_mkI1_eq 1 0).trans ?_)
    rw [dF (by omega)]
    rfl
  · cases hl
theorem ok_mkIa : EntryOk Tryz.prog 7 E_mkIa := entry_of mix ok_kfb1 (lp := lp_mkI) (LO := LO_mkI) ⟨Tryz.func7, by kernel_rfl, by kernel_rfl⟩ (by kernel_rfl) fun ivs res bxs h => by
  unfold E_mkIa at h
  split at h
  · rename_i e n l k
    rcases pick2 h with ⟨hc, he⟩ | ⟨hn, hc, he⟩
    · cases he
      obtain ⟨hc, g3⟩ := andE hc
      obtain ⟨hc, g2⟩ := andE hc
      obtain ⟨g0, g1⟩ := andE hc
      obtain rfl := Nat.eq_of_beq_eq_true g0
      obtain rfl := eq_of_beq g2
      refine ⟨loops_mkI, (q_mkI_eq n l).trans ?_⟩
      rw [g1, g3, Nat.beq_refl n]
      rfl
    · cases he
      obtain ⟨hc, g3⟩ := andE hc
      obtain ⟨hc, g2⟩ := andE hc
      obtain ⟨g0, g1⟩ := andE hc
      obtain rfl := Nat.eq_of_beq_eq_true g0
      obtain rfl := Nat.eq_of_beq_eq_true g1
      obtain rfl := nilB_inv g2
      obtain rfl := eq_of_beq g3
      refine ⟨loops_mkI, q_mkI0_eq.trans ?_⟩
      rw [nilB_mk]
      rfl
  · cases h
theorem ok_mkIb : EntryOk Tryz.prog 7 E_mkIb := entry_of mix ok_kfb1 (lp := lp_mkI) (LO := LO_mkI1) ⟨Tryz.func7, by kernel_rfl, by kernel_rfl⟩ (by kernel_rfl) fun ivs res bxs h => by
  unfold E_mkIb at h
  split at h
  · rename_i n l k
    obtain ⟨hc, he⟩ := pick1 h
    cases he
    obtain ⟨hc, g2⟩ := andE hc
    obtain ⟨g0, g1⟩ := andE hc
    obtain rfl := Nat.eq_of_beq_eq_true g0
    obtain rfl := nilB_inv g1
    obtain rfl := eq_of_beq g2
    refine ⟨loops_mkI1, q_mkI1_eq.trans ?_⟩
    rw [nilB_mk]
    rfl
  · cases h
theorem ok_mkI : EntryOk Tryz.prog 7 E_mkI := entry_or' ok_mkIa ok_mkIb
theorem mkL_idem : ∀ (k : Int) (l : List ByteArray), mkL k (mkL k l) = mkL k l
  | k, [] => rfl
  | k, x :: t => by
    show mkV k :: mkL (k + 1) (mkL (k + 1) t) = mkV k :: mkL (k + 1) t
    rw [mkL_idem]
theorem mkI_idem (k : Int) (x : ImT) : mkI k (mkI k x) = mkI k x := by
  unfold mkI
  simp only [mkL_len, mkL_idem]
theorem mkIs_idem : ∀ (k : Int) (l : List ImT), mkIs k (mkIs k l) = mkIs k l
  | k, [] => rfl
  | k, x :: t => by
    show mkI k (mkI k x) :: mkIs (k + 5 + (mkL (k + 1) x.subs).length) (mkIs (k + 5 + x.subs.length) t) = mkI k x :: mkIs (k + 5 + x.subs.length) t
    rw [mkI_idem, mkL_len, mkIs_idem]
theorem mkE_mk : ∀ (k : Int) (l : List ImT), mkE k (mkIs k l) = mkE k l
  | k, [] => rfl
  | k, x :: t => by
    show mkE (k + 5 + (mkL (k + 1) x.subs).length) (mkIs (k + 5 + x.subs.length) t) = mkE (k + 5 + x.subs.length) t
    rw [mkL_len, mkE_mk]
theorem hdS_loop : ∀ (m i : Nat) (l : List ByteArray) (k : Int), m + i = l.length → l.length ≤ 100000 → 1 ≤ k → k ≤ 900000000 + i → l.drop i = mkL k (l.drop i) →
    LoopsTo (rdB brC Tryz.prog kfb0 lp_hdS LO_hdS Tryz.f20 2 []) [aP (pL l), aI k, aI i] (.exit 0, [aI (k + m)]) := by
  intro m
  induction m with
  | zero =>
    intro i l k hm hl h1 h2 hd
    rw [show k + ((0 : Nat) : Int) = k by omega]
    refine .done _ _ ((r_hdS_eq l k i).trans ?_)
    rw [dF (by omega)]
    rfl
  | succ m ih =>
    intro i l k hm hl h1 h2 hd
    have hi : i < l.length := by omega
    have tree := r_hdS_eq l k i
    have w1 : IntKind.wrap .i64 (k + 1) = k + 1 := wrapI (by omega) (by omega)
    have q1 : holds (k ≤ 1000000000) = true := holds_mk (by omega)
    rw [List.drop_eq_getElem_cons hi, show mkL k (l[i] :: l.drop (i + 1)) = mkV k :: mkL (k + 1) (l.drop (i + 1)) from rfl] at hd
    injection hd with he hd
    simp (disch := omega) only [dT, Int.toNat_natCast, drop_strs l i hi, List.length_cons, List.headD_cons, PV.isStr, PV.asStr, blt0, wrap1, w1, q1, he, bne_self_eq_false, beq_self_eq_true, Bool.not_true, Bool.and_true] at tree
    have := ih (i + 1) l (k + 1) (by omega) hl (by omega) (by omega) hd
    rw [show k + ((m + 1 : Nat) : Int) = k + 1 + (m : Int) by omega]
    exact .step _ _ _ tree this
theorem ok_hdS : EntryOk Tryz.prog 20 E_hdS := entry_of mix ok_kfb0 (lp := lp_hdS) (LO := LO_hdS) ⟨Tryz.func20, by kernel_rfl, by kernel_rfl⟩ (by kernel_rfl) fun ivs res bxs h => by
  unfold E_hdS at h
  split at h
  · rename_i p k
    obtain ⟨hc, he⟩ := pick1 h
    cases he
    obtain ⟨hc, k3⟩ := andE hc
    obtain ⟨hc, k2⟩ := andE hc
    obtain ⟨k0, k1⟩ := andE hc
    obtain ⟨t, rfl, h_t⟩ := isL_inv k0
    have e_t : asL (pL t) = t := asL_mk t
    refine ⟨oneLoop 2 (by kernel_rfl) (by kernel_rfl) (by kernel_rfl) ?_, (q_hdS_eq t k).trans ?_⟩
    · intro ls e ls' hl
      replace hl : pickA (LO_hdS_2 ls) = some (e, ls') := hl
      unfold LO_hdS_2 at hl
      split at hl
      · rename_i p k i
        obtain ⟨hc, he⟩ := pick1 hl
        cases he
        obtain ⟨hc, g4⟩ := andE hc
        obtain ⟨hc, g3⟩ := andE hc
        obtain ⟨hc, g2⟩ := andE hc
        obtain ⟨g0, g1⟩ := andE hc
        obtain ⟨t, rfl, h_t⟩ := isL_inv g0
        have e_t : asL (pL t) = t := asL_mk t
        obtain rfl := eq_of_beq g1
        rw [e_t] at g4 ⊢
        have g3 := holds_inv g3
        exact hdS_loop t.length 0 t k rfl h_t.1 (of_decide_eq_true g2) (by omega) (holds_inv g4)
      · cases hl
    · rw [e_t] at k3 ⊢
      rw [k0, k1, k2, k3]
      rfl
  · cases h
theorem ok_kfb4 : EntriesOk Tryz.prog kfb4 := ⟨ok_hdS, ok_mkT, trivial⟩
theorem hdI_loop : ∀ (l u : List ImT) (i : Nat) (k : Int), u = l.drop i → i + u.length = l.length → l.length ≤ 255 → (∀ x ∈ u, shIm x) → 1 ≤ k → k ≤ 1 + 100010 * i → u = mkIs k u →
    LoopsTo (rdB brC Tryz.prog kfb4 lp_hdS LO_hdI Tryz.f8 2 []) [aP (pIms l), aI k, aI i] (.exit 0, [aI (mkE k u)]) := by
  intro l u
  induction u with
  | nil =>
    intro i k hu hi hn hl h1 h2 hd
    refine .done _ _ ((r_hdI_eq _ _ _).trans ?_)
    rw [List.length_nil] at hi
    rw [dF (by omega)]
    rfl
  | cons x t ih =>
    intro i k hu hi hn hl h1 h2 hd
    rw [List.length_cons] at hi
    have hil : i < l.length := by omega
    have hx := hl x (List.mem_cons_self ..)
    have hz : x.subs.length ≤ 100000 := hx.2.1.1
    have tree := r_hdI_eq l k i
    rw [List.drop_eq_getElem_cons hil] at hu
    injection hu with hu1 hu2
    have hdr := drop_encIm l i hil
    rw [← hu1, ← hu2] at hdr
    rw [show mkIs k (x :: t) = mkI k x :: mkIs (k + 5 + x.subs.length) t from rfl] at hd
    injection hd with hd1 hd2
    have f1 : x.name = mkV k := congrArg ImT.name hd1
    have f2 : x.subs = mkL (k + 1) x.subs := congrArg ImT.subs hd1
    have f3 : x.had = decide (Int.tmod (k + 1 + x.subs.length) 3 = 0) := congrArg ImT.had hd1
    have f4 : x.was = mkV (k + 2 + x.subs.length) := congrArg ImT.was hd1
    have f5 : x.has = decide (Int.tmod (k + 3 + x.subs.length) 3 = 0) := congrArg ImT.has hd1
    have f6 : x.is = mkV (k + 4 + x.subs.length) := congrArg ImT.is hd1
    have wa : IntKind.wrap .i64 (k + 1) = k + 1 := wrapI (by omega) (by omega)
    have wb : IntKind.wrap .i64 (k + 1 + (x.subs.length : Int) + 1) = k + 2 + (x.subs.length : Int) := by rw [wrapI (by omega) (by omega)]; omega
    have wc : IntKind.wrap .i64 (k + 2 + (x.subs.length : Int) + 1) = k + 3 + (x.subs.length : Int) := by rw [wrapI (by omega) (by omega)]; omega
    have wd : IntKind.wrap .i64 (k + 3 + (x.subs.length : Int) + 1) = k + 4 + (x.subs.length : Int) := by rw [wrapI (by omega) (by omega)]; omega
    have we : IntKind.wrap .i64 (k + 4 + (x.subs.length : Int) + 1) = k + 5 + (x.subs.length : Int) := by rw [wrapI (by omega) (by omega)]; omega
    have h0 : holds (k ≤ 1000000000) = true := holds_mk (by omega)
    have h3 : holds (k + 1 ≤ 900000000) = true := holds_mk (by omega)
    have h4 : holds (k + 2 + (x.subs.length : Int) ≤ 1000000000) = true := holds_mk (by omega)
    have h5 : holds (k + 4 + (x.subs.length : Int) ≤ 1000000000) = true := holds_mk (by omega)
    have h6 : holds (x.subs = mkL (k + 1) x.subs) = true := holds_mk f2
    have il : isE pL shL (PV.sl x.subs.length (x.subs.map .str)) = true := isL_mk hx.2.1
    have al : asE pL (PV.sl x.subs.length (x.subs.map .str)) = x.subs := asL_mk x.subs
    have d0 : decide ((i : Int) < (l.length : Int)) = true := dT (by omega)
    have d1 : decide (0 ≤ (i : Int)) = true := dT (by omega)
    have d2 : decide (1 ≤ k) = true := dT h1
    have d3 : decide (1 ≤ k + 1) = true := dT (by omega)
    have d4 : decide (1 ≤ k + 2 + (x.subs.length : Int)) = true := dT (by omega)
    have d5 : decide (1 ≤ k + 4 + (x.subs.length : Int)) = true := dT (by omega)
    have d6 : decide (k + 1 + (x.subs.length : Int) < 0) = false := dF (by omega)
    simp only [Int.toNat_natCast, hdr, List.drop_zero, List.drop_succ_cons, d0, d1, d2, h0, wa, wrap1 (show i ≤ 2305843009213693952 by omega), List.length_cons, List.headD_cons, List.tail_cons, PV.isStr, PV.asStr, PV.isBool, PV.asBool, PV.isSl, PV.slN, PV.slL, ble1, ble2, ble3, ble4, ble5, ble6, blt0, isL, asL, il, al, h6, Nat.beq_refl, wb, wc, wd, we, d3, d4, d5, d6, h3, h4, h5, Bool.and_true, Bool.true_and] at tree
    have b1 : (x.name.toList == (mkV k).toList) = true := by rw [← f1]; exact beq_self_eq_true _
    have b2 : (x.was.toList == (mkV (k + 2 + x.subs.length)).toList) = true := by rw [← f4]; exact beq_self_eq_true _
    have b3 : (x.is.toList == (mkV (k + 4 + x.subs.length)).toList) = true := by rw [← f6]; exact beq_self_eq_true _
    have q3 : (decide (Int.tmod (k + 1 + (x.subs.length : Int)) 3 = 0) == (Int.tmod (k + 1 + (x.subs.length : Int)) 3 == 0)) = true := beq_self_eq_true (decide (Int.tmod (k + 1 + (x.subs.length : Int)) 3 = 0))
    have q5 : (decide (Int.tmod (k + 3 + (x.subs.length : Int)) 3 = 0) == (Int.tmod (k + 3 + (x.subs.length : Int)) 3 == 0)) = true := beq_self_eq_true (decide (Int.tmod (k + 3 + (x.subs.length : Int)) 3 = 0))
    rw [b1, b2, b3, f3, f5, q3, q5] at tree
    have := ih (i + 1) (k + 5 + x.subs.length) hu2 (by omega) hn (fun y hy => hl y (List.mem_cons_of_mem _ hy)) (by omega) (by omega) hd2
    exact .step _ _ _ tree this
theorem ok_hdI : EntryOk Tryz.prog 8 E_hdI := entry_of mix ok_kfb4 (lp := lp_hdS) (LO := LO_hdI) ⟨Tryz.func8, by kernel_rfl, by kernel_rfl⟩ (by kernel_rfl) fun ivs res bxs h => by
  unfold E_hdI at h
  split at h
  · rename_i p k
    obtain ⟨hc, he⟩ := pick1 h
    cases he
    obtain ⟨hc, k3⟩ := andE hc
    obtain ⟨hc, k2⟩ := andE hc
    obtain ⟨k0, k1⟩ := andE hc
    obtain ⟨t, rfl, h_t⟩ := isE_inv k0
    have e_t : asIms (pIms t) = t := asIms_mk t
    obtain rfl := eq_of_beq k1
    refine ⟨oneLoop 2 (by kernel_rfl) (by kernel_rfl) (by kernel_rfl) ?_, (q_hdI_eq t).trans ?_⟩
    · intro ls e ls' hl
      replace hl : pickA (LO_hdI_2 ls) = some (e, ls') := hl
      unfold LO_hdI_2 at hl
      split at hl
      · rename_i p k i
        obtain ⟨hc, he⟩ := pick1 hl
        cases he
        obtain ⟨hc, g4⟩ := andE hc
        obtain ⟨hc, g3⟩ := andE hc
        obtain ⟨hc, g2⟩ := andE hc
        obtain ⟨g0, g1⟩ := andE hc
        obtain ⟨t, rfl, h_t⟩ := isE_inv g0
        have e_t : asIms (pIms t) = t := asIms_mk t
        obtain rfl := eq_of_beq g1
        obtain rfl := eq_of_beq g2
        rw [e_t] at g3 g4 ⊢
        exact hdI_loop t t 0 1 rfl (by omega) (of_decide_eq_true g3) h_t.2 (by decide) (by decide) (holds_inv g4)
      · cases hl
    · rw [e_t] at k2 k3 ⊢
      rw [k0, k2, k3]
      rfl
  · cases h
end
section
open Go.RowKit
set_option linter.unusedVariables false
set_option linter.unusedSimpArgs false
def rst (s : ByteArray) (a : Nat) : ByteArray := s.extract a s.size
abbrev srd (s : ByteArray) (a : Int) (b : Bool) : List CV := [.pv (.str s), .pv (.int .i64 a), .pv (.bool b)]
noncomputable def q_stake (br : Br) (s : ByteArray) (a : Int) (b : Bool) (n : Int) := evB br Tryz.prog [] [] LO0 Tryz.f11 [.box 0 (srd s a b), cI n]
def posR (s r : ByteArray) : Int := ((s.size - r.size : Nat) : Int)
noncomputable def E_stake : Entry := fun ivs => match ivs with
  | [.box 0 [.pv (.str s), .pv (.int .i64 a), .pv (.bool b)], .cv (.pv (.int .i64 n))] =>
    [(decide (0 ≤ n) && decide (0 ≤ a) && decide (a ≤ s.size) && decide (s.size ≤ 2000000), cS (tkS (rst s a.toNat) n.toNat), [srd s (posR s (tkR (rst s a.toNat) n.toNat)) (tkB (rst s a.toNat) b n.toNat)])]
  | _ => []
noncomputable def keb0 : List (FuncId × Entry) := [(11, E_stake)]
noncomputable def q_snum (br : Br) (s : ByteArray) (a : Int) (b : Bool) := evB br Tryz.prog keb0 [] LO0 Tryz.f9 [.box 0 (srd s a b)]
noncomputable def E_snum : Entry := fun ivs => match ivs with
  | [.box 0 [.pv (.str s), .pv (.int .i64 a), .pv (.bool b)]] =>
    [(decide (0 ≤ a) && decide (a ≤ s.size) && decide (s.size ≤ 2000000), cI (oneV (rst s a.toNat)), [srd s (posR s (tkR (rst s a.toNat) 1)) (tkB (rst s a.toNat) b 1)])]
  | _ => []
noncomputable def keb1 : List (FuncId × Entry) := (24, E_imgsOk) :: (25, E_byte) :: (26, E_short) :: [(27, E_KeyOf2)]
abbrev oR (slot : Nat) (s : ByteArray) : AV × Option Ob := (.own (4096 * slot), some (.lst 1 (1000000 + 5) s.size (bytesP s) true))
abbrev lp_sput : List (Nat × List Nat × List Nat) := [(5, [0, 3, 4], [0, 3]), (1000000, [14], [])]
noncomputable def LO_sput_5 (ls : LS) : List (Bool × Ex × LS) := match ls with
  | [(.pv p, none), (.own x, some (.lst 1 e n l true)), (.pv (.int .i64 i), none)] =>
    [(isIms p && imgsB (asIms p) && Nat.beq x 12288 && Nat.beq e (1000000 + 5) && isBy (.sl n l) && holds ((asBy (.sl n l)).size ≤ 10) && (i == 0), .exit 0, [aP (pIms (asIms p)), oR 3 (imsT (asBy (.sl n l)) (asIms p))])]
  | _ => []
noncomputable def LO_sput : LoopT := fun k ls => bif Nat.beq k 5 then LO_sput_5 ls else []
noncomputable def r_sput (br : Br) (l : List ImT) (s : ByteArray) (i : Int) := rdB br Tryz.prog keb1 lp_sput LO_sput Tryz.f12 5 [] [aP (pIms l), oR 3 s, aI i]
noncomputable def q_sput (br : Br) (l : List ImT) := evB br Tryz.prog keb1 lp_sput LO_sput Tryz.f12 [cP (pIms l)]
noncomputable def rdNS : Nat → ByteArray → Bool → List ImT → Bool × ByteArray × Bool × List ImT
  | 0, r, b, l => (true, r, b, l)
  | n + 1, r, b, l => bif b then (true, r, b, l) else bif holds (isKy (t1S r)) then rdNS n (rd1 r b).r (rd1 r b).b (l ++ [(rd1 r b).im]) else (false, (rd1 r b).r, (rd1 r b).b, l)
noncomputable def keb2 : List (FuncId × Entry) := (11, E_stake) :: (9, E_snum) :: (10, E_SKeyPl) :: [(12, E_putIms)]
abbrev lp_sgi : List (Nat × List Nat × List Nat) := [(5, [0, 4, 5, 6, 7], [0, 2, 3, 4, 6])]
abbrev aSr (slot : Nat) (s : ByteArray) (a : Int) (b : Bool) : AV × Option Ob := aBx slot (srd s a b)
abbrev aFs (slot : Nat) (l : List ImT) : AV × Option Ob := aL slot 6 37 l.length (encIm l)
noncomputable def LO_sgi_5 (ls : LS) : List (Bool × Ex × LS) := match ls with
  | [(.pv (.str s), none), (.ptr x 0, some (.box [.pv (.str s2), .pv (.int .i64 a), .pv (.bool b)])), (.pv (.int .i64 n), none), (.own y, some (.lst 6 e c l false)), (.pv (.int .i64 i), none)] =>
    [(Nat.beq x 16384 && Nat.beq y 24576 && Nat.beq e 37 && Nat.beq c 0 && nilB l && (i == 0) && decide (0 ≤ n) && decide (n ≤ 255) && decide (0 ≤ a) && decide (a ≤ s2.size) && holds (s2.size ≤ 2000000) && (rdNS n.toNat (rst s2 a.toNat) b []).1, .exit 0, [aS s, aX, aX, aSr 4 s2 (posR s2 (rdNS n.toNat (rst s2 a.toNat) b []).2.1) (rdNS n.toNat (rst s2 a.toNat) b []).2.2.1, aFs 6 (rdNS n.toNat (rst s2 a.toNat) b []).2.2.2]),
     (Nat.beq x 16384 && Nat.beq y 24576 && Nat.beq e 37 && Nat.beq c 0 && nilB l && (i == 0) && decide (0 ≤ n) && decide (n ≤ 255) && decide (0 ≤ a) && decide (a ≤ s2.size) && holds (s2.size ≤ 2000000), .ret, [aS s, aP .nils, aB false, aSr 4 s2 (posR s2 (rdNS n.toNat (rst s2 a.toNat) b []).2.1) (rdNS n.toNat (rst s2 a.toNat) b []).2.2.1, aFs 6 (rdNS n.toNat (rst s2 a.toNat) b []).2.2.2])]
  | _ => []
noncomputable def LO_sgi : LoopT := fun k ls => bif Nat.beq k 5 then LO_sgi_5 ls else []
noncomputable def r_sgi (br : Br) (s s2 : ByteArray) (a : Int) (b : Bool) (n : Int) (l : List ImT) (i : Int) := rdB br Tryz.prog keb2 lp_sgi LO_sgi Tryz.f4 5 [] [aS s, aSr 4 s2 a b, aI n, aFs 6 l, aI i]
noncomputable def q_sgi (br : Br) (s : ByteArray) := evB br Tryz.prog keb2 lp_sgi LO_sgi Tryz.f4 [cS s]
noncomputable def E_sgi : Entry := fun ivs => match ivs with
  | [.cv (.pv (.str s))] =>
    [(decide (s.size ≤ 2000000) && holds (isImgs s), .tup [cP (pIms (decI s)), cB true], []),
     (decide (s.size ≤ 2000000), .tup [cP (.sl 0 []), cB false], [])]
  | _ => []
end
end Go.Proofs.YtlenmjklpiccdaaGreatDoor
