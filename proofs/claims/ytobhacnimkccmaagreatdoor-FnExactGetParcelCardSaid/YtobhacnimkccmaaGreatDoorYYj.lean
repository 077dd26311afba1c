import Derived.Test.YtobhacnimkccmaaGreatDoorYYi
namespace Go.Proofs.YtobhacnimkccmaaGreatDoor
set_option linter.unusedVariables false
set_option maxRecDepth 100000
set_option linter.unusedSimpArgs false
section
noncomputable def zzag0 (s : ByteArray) (r : ByteArray) (b : Bool) (n : Int) := (tkR (tkR (tkR (tkR (tkR r 1) (Int.toNat (oneV r))) 1) 1) (Int.toNat (oneV (tkR (tkR (tkR r 1) (Int.toNat (oneV r))) 1))))
noncomputable def zzag1 (s : ByteArray) (r : ByteArray) (b : Bool) (n : Int) := (tkB (tkR (tkR (tkR (tkR r 1) (Int.toNat (oneV r))) 1) 1) (tkB (tkR (tkR (tkR r 1) (Int.toNat (oneV r))) 1) (tkB (tkR (tkR r 1) (Int.toNat (oneV r))) (tkB (tkR r 1) (tkB r b 1) (Int.toNat (oneV r))) 1) 1) (Int.toNat (oneV (tkR (tkR (tkR r 1) (Int.toNat (oneV r))) 1))))
noncomputable def zzag2 (s : ByteArray) (r : ByteArray) (b : Bool) (n : Int) := (bits BinOp.and .i64 (oneV (tkR (tkR r 1) (Int.toNat (oneV r)))) 2 == 2)
noncomputable def zzag3 (s : ByteArray) (r : ByteArray) (b : Bool) (n : Int) := (tkS (tkR (tkR (tkR (tkR r 1) (Int.toNat (oneV r))) 1) 1) (Int.toNat (oneV (tkR (tkR (tkR r 1) (Int.toNat (oneV r))) 1))))
noncomputable def zzag4 (s : ByteArray) (r : ByteArray) (b : Bool) (n : Int) := (bits BinOp.and .i64 (oneV (tkR (tkR r 1) (Int.toNat (oneV r)))) 1 == 1)
theorem jlK (s : ByteArray) (r : ByteArray) (b : Bool) (n : Int) : r_gi0 brC s r b n =
 brC (decide (n > 0))
 (brC (!b)
 (brC (decide (ByteArray.size r ≤ 2000000))
 (brC (decide (0 ≤ oneV r) && decide (ByteArray.size (tkR r 1) ≤ 2000000))
 (brC (decide (ByteArray.size (tkS (tkR r 1) (Int.toNat (oneV r))) ≤ 2000) && holds (isKy (tkS (tkR r 1) (Int.toNat (oneV r)))))
 (brC (decide (ByteArray.size (tkR (tkR r 1) (Int.toNat (oneV r))) ≤ 2000000))
 (brC (zzag4 s r b n)
 (brC (decide (ByteArray.size (tkR (tkR (tkR r 1) (Int.toNat (oneV r))) 1) ≤ 2000000))
 (brC (decide (0 ≤ oneV (tkR (tkR (tkR r 1) (Int.toNat (oneV r))) 1)) && decide (ByteArray.size (tkR (tkR (tkR (tkR r 1) (Int.toNat (oneV r))) 1) 1) ≤ 2000000))
 (brC (zzag2 s r b n)
 (brC (decide (ByteArray.size (zzag0 s r b n) ≤ 2000000))
 (brC (decide (0 ≤ oneV (zzag0 s r b n)) && decide (ByteArray.size (tkR (zzag0 s r b n) 1) ≤ 2000000))
 (some (.inl [(.pv (.str s), none), (.ptr 16384 0, some (.box [.pv (.str (tkR (tkR (zzag0 s r b n) 1) (Int.toNat (oneV (zzag0 s r b n))))), .pv (.bool (tkB (tkR (zzag0 s r b n) 1) (tkB (zzag0 s r b n) (zzag1 s r b n) 1) (Int.toNat (oneV (zzag0 s r b n)))))])), (.own 20480, some (.dls 6 115 1 [PV.str (Prod.fst (deKy (tkS (tkR r 1) (Int.toNat (oneV r))))), PV.sl (List.length (Prod.snd (deKy (tkS (tkR r 1) (Int.toNat (oneV r)))))) (List.map PV.str (Prod.snd (deKy (tkS (tkR r 1) (Int.toNat (oneV r)))))), PV.bool (zzag4 s r b n), PV.str (zzag3 s r b n), PV.bool (zzag2 s r b n), PV.str (tkS (tkR (zzag0 s r b n) 1) (Int.toNat (oneV (zzag0 s r b n))))] true none)), (.pv (.int .i64 (IntKind.wrap .i64 (n - 1))), none)]))
 none)
 none)
 (some (.inl [(.pv (.str s), none), (.ptr 16384 0, some (.box [.pv (.str (zzag0 s r b n)), .pv (.bool (zzag1 s r b n))])), (.own 20480, some (.dls 6 115 1 [PV.str (Prod.fst (deKy (tkS (tkR r 1) (Int.toNat (oneV r))))), PV.sl (List.length (Prod.snd (deKy (tkS (tkR r 1) (Int.toNat (oneV r)))))) (List.map PV.str (Prod.snd (deKy (tkS (tkR r 1) (Int.toNat (oneV r)))))), PV.bool (zzag4 s r b n), PV.str (zzag3 s r b n), PV.bool (zzag2 s r b n), PV.str { data := #[] }] true none)), (.pv (.int .i64 (IntKind.wrap .i64 (n - 1))), none)])))
 none)
 none)
 (brC (zzag2 s r b n)
 (brC (decide (ByteArray.size (tkR (tkR (tkR r 1) (Int.toNat (oneV r))) 1) ≤ 2000000))
 (brC (decide (0 ≤ oneV (tkR (tkR (tkR r 1) (Int.toNat (oneV r))) 1)) && decide (ByteArray.size (tkR (tkR (tkR (tkR r 1) (Int.toNat (oneV r))) 1) 1) ≤ 2000000))
 (some (.inl [(.pv (.str s), none), (.ptr 16384 0, some (.box [.pv (.str (zzag0 s r b n)), .pv (.bool (zzag1 s r b n))])), (.own 20480, some (.dls 6 115 1 [PV.str (Prod.fst (deKy (tkS (tkR r 1) (Int.toNat (oneV r))))), PV.sl (List.length (Prod.snd (deKy (tkS (tkR r 1) (Int.toNat (oneV r)))))) (List.map PV.str (Prod.snd (deKy (tkS (tkR r 1) (Int.toNat (oneV r)))))), PV.bool (zzag4 s r b n), PV.str { data := #[] }, PV.bool (zzag2 s r b n), PV.str (zzag3 s r b n)] true none)), (.pv (.int .i64 (IntKind.wrap .i64 (n - 1))), none)]))
 none)
 none)
 (some (.inl [(.pv (.str s), none), (.ptr 16384 0, some (.box [.pv (.str (tkR (tkR (tkR r 1) (Int.toNat (oneV r))) 1)), .pv (.bool (tkB (tkR (tkR r 1) (Int.toNat (oneV r))) (tkB (tkR r 1) (tkB r b 1) (Int.toNat (oneV r))) 1))])), (.own 20480, some (.dls 6 115 1 [PV.str (Prod.fst (deKy (tkS (tkR r 1) (Int.toNat (oneV r))))), PV.sl (List.length (Prod.snd (deKy (tkS (tkR r 1) (Int.toNat (oneV r)))))) (List.map PV.str (Prod.snd (deKy (tkS (tkR r 1) (Int.toNat (oneV r)))))), PV.bool (zzag4 s r b n), PV.str { data := #[] }, PV.bool (zzag2 s r b n), PV.str { data := #[] }] true none)), (.pv (.int .i64 (IntKind.wrap .i64 (n - 1))), none)]))))
 none)
 (brC (decide (ByteArray.size (tkS (tkR r 1) (Int.toNat (oneV r))) ≤ 2000))
 (brC (decide (ByteArray.size (tkR (tkR r 1) (Int.toNat (oneV r))) ≤ 2000000))
 (brC (zzag4 s r b n)
 (brC (decide (ByteArray.size (tkR (tkR (tkR r 1) (Int.toNat (oneV r))) 1) ≤ 2000000))
 (brC (decide (0 ≤ oneV (tkR (tkR (tkR r 1) (Int.toNat (oneV r))) 1)) && decide (ByteArray.size (tkR (tkR (tkR (tkR r 1) (Int.toNat (oneV r))) 1) 1) ≤ 2000000))
 (brC (zzag2 s r b n)
 (brC (decide (ByteArray.size (zzag0 s r b n) ≤ 2000000))
 (brC (decide (0 ≤ oneV (zzag0 s r b n)) && decide (ByteArray.size (tkR (zzag0 s r b n) 1) ≤ 2000000))
 (some (.inl [(.pv (.str s), none), (.ptr 16384 0, some (.box [.pv (.str (tkR (tkR (zzag0 s r b n) 1) (Int.toNat (oneV (zzag0 s r b n))))), .pv (.bool (tkB (tkR (zzag0 s r b n) 1) (tkB (zzag0 s r b n) (zzag1 s r b n) 1) (Int.toNat (oneV (zzag0 s r b n)))))])), (.own 20480, some (.dls 6 115 1 [PV.str { data := #[] }, PV.sl 0 [], PV.bool (zzag4 s r b n), PV.str (zzag3 s r b n), PV.bool (zzag2 s r b n), PV.str (tkS (tkR (zzag0 s r b n) 1) (Int.toNat (oneV (zzag0 s r b n))))] true none)), (.pv (.int .i64 (IntKind.wrap .i64 (n - 1))), none)]))
 none)
 none)
 (some (.inl [(.pv (.str s), none), (.ptr 16384 0, some (.box [.pv (.str (zzag0 s r b n)), .pv (.bool (zzag1 s r b n))])), (.own 20480, some (.dls 6 115 1 [PV.str { data := #[] }, PV.sl 0 [], PV.bool (zzag4 s r b n), PV.str (zzag3 s r b n), PV.bool (zzag2 s r b n), PV.str { data := #[] }] true none)), (.pv (.int .i64 (IntKind.wrap .i64 (n - 1))), none)])))
 none)
 none)
 (brC (zzag2 s r b n)
 (brC (decide (ByteArray.size (tkR (tkR (tkR r 1) (Int.toNat (oneV r))) 1) ≤ 2000000))
 (brC (decide (0 ≤ oneV (tkR (tkR (tkR r 1) (Int.toNat (oneV r))) 1)) && decide (ByteArray.size (tkR (tkR (tkR (tkR r 1) (Int.toNat (oneV r))) 1) 1) ≤ 2000000))
 (some (.inl [(.pv (.str s), none), (.ptr 16384 0, some (.box [.pv (.str (zzag0 s r b n)), .pv (.bool (zzag1 s r b n))])), (.own 20480, some (.dls 6 115 1 [PV.str { data := #[] }, PV.sl 0 [], PV.bool (zzag4 s r b n), PV.str { data := #[] }, PV.bool (zzag2 s r b n), PV.str (zzag3 s r b n)] true none)), (.pv (.int .i64 (IntKind.wrap .i64 (n - 1))), none)]))
 none)
 none)
 (some (.inl [(.pv (.str s), none), (.ptr 16384 0, some (.box [.pv (.str (tkR (tkR (tkR r 1) (Int.toNat (oneV r))) 1)), .pv (.bool (tkB (tkR (tkR r 1) (Int.toNat (oneV r))) (tkB (tkR r 1) (tkB r b 1) (Int.toNat (oneV r))) 1))])), (.own 20480, some (.dls 6 115 1 [PV.str { data := #[] }, PV.sl 0 [], PV.bool (zzag4 s r b n), PV.str { data := #[] }, PV.bool (zzag2 s r b n), PV.str { data := #[] }] true none)), (.pv (.int .i64 (IntKind.wrap .i64 (n - 1))), none)]))))
 none)
 none))
 none)
 none)
 (some (.inr (.exit 0, [(.pv (.str s), none), (.ptr 16384 0, some (.box [.pv (.str r), .pv (.bool b)])), (.own 20480, some (.lst 6 115 0 [] true))]))))
 (some (.inr (.exit 0, [(.pv (.str s), none), (.ptr 16384 0, some (.box [.pv (.str r), .pv (.bool b)])), (.own 20480, some (.lst 6 115 0 [] true))]))) := by kernel_rfl
theorem jtz (s : ByteArray) : q_gi brC s =
 brC (decide (ByteArray.size s ≤ 2000000))
 (brC (Nat.beq 16384 16384 && Nat.beq 20480 20480 && Nat.beq 115 115 && Nat.beq 0 0 && nilB [] && (decide (oneV s ≤ 0) || tkB s false 1))
 (brC (tkB s false 1)
 (some ((.tup [.cv (.pv PV.nils), .cv (.pv (.bool false))], [])))
 (brC (ByteArray.toList s == [])
 (some ((.tup [.cv (.pv PV.nils), .cv (.pv (.bool false))], [])))
 (brC (isIms (PV.sl 0 []))
 (brC (!ByteArray.toList (putI (asIms (PV.sl 0 []))) == ByteArray.toList s)
 (some ((.tup [.cv (.pv PV.nils), .cv (.pv (.bool false))], [])))
 (some ((.tup [.cv (.lst 6 115 0 [] true), .cv (.pv (.bool true))], []))))
 none)))
 (brC (Nat.beq 16384 16384 && Nat.beq 20480 20480 && Nat.beq 115 115 && Nat.beq 0 0 && nilB [] && decide (0 ≤ oneV s) && decide (oneV s ≤ 255) && holds (ByteArray.size (tkR s 1) ≤ 2000000))
 (brC (Prod.fst (Prod.snd (rdN (Int.toNat (oneV s)) (tkR s 1) (tkB s false 1) [])))
 (some ((.tup [.cv (.pv PV.nils), .cv (.pv (.bool false))], [])))
 (brC (ByteArray.toList s == [])
 (some ((.tup [.cv (.pv PV.nils), .cv (.pv (.bool false))], [])))
 (brC (isIms (PV.sl (List.length (Prod.snd (Prod.snd (rdN (Int.toNat (oneV s)) (tkR s 1) (tkB s false 1) [])))) (encIm (Prod.snd (Prod.snd (rdN (Int.toNat (oneV s)) (tkR s 1) (tkB s false 1) []))))))
 (brC (!ByteArray.toList (putI (asIms (PV.sl (List.length (Prod.snd (Prod.snd (rdN (Int.toNat (oneV s)) (tkR s 1) (tkB s false 1) [])))) (encIm (Prod.snd (Prod.snd (rdN (Int.toNat (oneV s)) (tkR s 1) (tkB s false 1) []))))))) == ByteArray.toList s)
 (some ((.tup [.cv (.pv PV.nils), .cv (.pv (.bool false))], [])))
 (some ((.tup [.cv (.dls 6 115 (List.length (Prod.snd (Prod.snd (rdN (Int.toNat (oneV s)) (tkR s 1) (tkB s false 1) [])))) (encIm (Prod.snd (Prod.snd (rdN (Int.toNat (oneV s)) (tkR s 1) (tkB s false 1) []))))), .cv (.pv (.bool true))], []))))
 none)))
 none))
 none := by kernel_rfl
noncomputable def zzah0 (s : ByteArray) (r : ByteArray) (b : Bool) (l : List ImT) (n : Int) := (tkR (tkR (tkR (tkR (tkR r 1) (Int.toNat (oneV r))) 1) 1) (Int.toNat (oneV (tkR (tkR (tkR r 1) (Int.toNat (oneV r))) 1))))
noncomputable def zzah1 (s : ByteArray) (r : ByteArray) (b : Bool) (l : List ImT) (n : Int) := (tkB (tkR (tkR (tkR (tkR r 1) (Int.toNat (oneV r))) 1) 1) (tkB (tkR (tkR (tkR r 1) (Int.toNat (oneV r))) 1) (tkB (tkR (tkR r 1) (Int.toNat (oneV r))) (tkB (tkR r 1) (tkB r b 1) (Int.toNat (oneV r))) 1) 1) (Int.toNat (oneV (tkR (tkR (tkR r 1) (Int.toNat (oneV r))) 1))))
noncomputable def zzah2 (s : ByteArray) (r : ByteArray) (b : Bool) (l : List ImT) (n : Int) := (decide (List.length l + 1 ≤ 140737488351232) && decide ((List.length l + 1) * 88 ≤ 140737488355328))
noncomputable def zzah3 (s : ByteArray) (r : ByteArray) (b : Bool) (l : List ImT) (n : Int) := (bits BinOp.and .i64 (oneV (tkR (tkR r 1) (Int.toNat (oneV r)))) 2 == 2)
noncomputable def zzah4 (s : ByteArray) (r : ByteArray) (b : Bool) (l : List ImT) (n : Int) := (tkS (tkR (tkR (tkR (tkR r 1) (Int.toNat (oneV r))) 1) 1) (Int.toNat (oneV (tkR (tkR (tkR r 1) (Int.toNat (oneV r))) 1))))
noncomputable def zzah5 (s : ByteArray) (r : ByteArray) (b : Bool) (l : List ImT) (n : Int) := (bits BinOp.and .i64 (oneV (tkR (tkR r 1) (Int.toNat (oneV r)))) 1 == 1)
theorem jkq (s : ByteArray) (r : ByteArray) (b : Bool) (l : List ImT) (n : Int) : r_gi brC s r b l n =
 brC (decide (n > 0))
 (brC (!b)
 (brC (decide (ByteArray.size r ≤ 2000000))
 (brC (decide (0 ≤ oneV r) && decide (ByteArray.size (tkR r 1) ≤ 2000000))
 (brC (decide (ByteArray.size (tkS (tkR r 1) (Int.toNat (oneV r))) ≤ 2000) && holds (isKy (tkS (tkR r 1) (Int.toNat (oneV r)))))
 (brC (decide (ByteArray.size (tkR (tkR r 1) (Int.toNat (oneV r))) ≤ 2000000))
 (brC (zzah5 s r b l n)
 (brC (decide (ByteArray.size (tkR (tkR (tkR r 1) (Int.toNat (oneV r))) 1) ≤ 2000000))
 (brC (decide (0 ≤ oneV (tkR (tkR (tkR r 1) (Int.toNat (oneV r))) 1)) && decide (ByteArray.size (tkR (tkR (tkR (tkR r 1) (Int.toNat (oneV r))) 1) 1) ≤ 2000000))
 (brC (zzah3 s r b l n)
 (brC (decide (ByteArray.size (zzah0 s r b l n) ≤ 2000000))
 (brC (decide (0 ≤ oneV (zzah0 s r b l n)) && decide (ByteArray.size (tkR (zzah0 s r b l n) 1) ≤ 2000000))
 (brC (zzah2 s r b l n)
 (some (.inl [(.pv (.str s), none), (.ptr 16384 0, some (.box [.pv (.str (tkR (tkR (zzah0 s r b l n) 1) (Int.toNat (oneV (zzah0 s r b l n))))), .pv (.bool (tkB (tkR (zzah0 s r b l n) 1) (tkB (zzah0 s r b l n) (zzah1 s r b l n) 1) (Int.toNat (oneV (zzah0 s r b l n)))))])), (.own 20480, some (.dls 6 115 (List.length l + 1) (encIm l ++ [PV.str (Prod.fst (deKy (tkS (tkR r 1) (Int.toNat (oneV r))))), PV.sl (List.length (Prod.snd (deKy (tkS (tkR r 1) (Int.toNat (oneV r)))))) (List.map PV.str (Prod.snd (deKy (tkS (tkR r 1) (Int.toNat (oneV r)))))), PV.bool (zzah5 s r b l n), PV.str (zzah4 s r b l n), PV.bool (zzah3 s r b l n), PV.str (tkS (tkR (zzah0 s r b l n) 1) (Int.toNat (oneV (zzah0 s r b l n))))]) true none)), (.pv (.int .i64 (IntKind.wrap .i64 (n - 1))), none)]))
 none)
 none)
 none)
 (brC (zzah2 s r b l n)
 (some (.inl [(.pv (.str s), none), (.ptr 16384 0, some (.box [.pv (.str (zzah0 s r b l n)), .pv (.bool (zzah1 s r b l n))])), (.own 20480, some (.dls 6 115 (List.length l + 1) (encIm l ++ [PV.str (Prod.fst (deKy (tkS (tkR r 1) (Int.toNat (oneV r))))), PV.sl (List.length (Prod.snd (deKy (tkS (tkR r 1) (Int.toNat (oneV r)))))) (List.map PV.str (Prod.snd (deKy (tkS (tkR r 1) (Int.toNat (oneV r)))))), PV.bool (zzah5 s r b l n), PV.str (zzah4 s r b l n), PV.bool (zzah3 s r b l n), PV.str { data := #[] }]) true none)), (.pv (.int .i64 (IntKind.wrap .i64 (n - 1))), none)]))
 none))
 none)
 none)
 (brC (zzah3 s r b l n)
 (brC (decide (ByteArray.size (tkR (tkR (tkR r 1) (Int.toNat (oneV r))) 1) ≤ 2000000))
 (brC (decide (0 ≤ oneV (tkR (tkR (tkR r 1) (Int.toNat (oneV r))) 1)) && decide (ByteArray.size (tkR (tkR (tkR (tkR r 1) (Int.toNat (oneV r))) 1) 1) ≤ 2000000))
 (brC (zzah2 s r b l n)
 (some (.inl [(.pv (.str s), none), (.ptr 16384 0, some (.box [.pv (.str (zzah0 s r b l n)), .pv (.bool (zzah1 s r b l n))])), (.own 20480, some (.dls 6 115 (List.length l + 1) (encIm l ++ [PV.str (Prod.fst (deKy (tkS (tkR r 1) (Int.toNat (oneV r))))), PV.sl (List.length (Prod.snd (deKy (tkS (tkR r 1) (Int.toNat (oneV r)))))) (List.map PV.str (Prod.snd (deKy (tkS (tkR r 1) (Int.toNat (oneV r)))))), PV.bool (zzah5 s r b l n), PV.str { data := #[] }, PV.bool (zzah3 s r b l n), PV.str (zzah4 s r b l n)]) true none)), (.pv (.int .i64 (IntKind.wrap .i64 (n - 1))), none)]))
 none)
 none)
 none)
 (brC (zzah2 s r b l n)
 (some (.inl [(.pv (.str s), none), (.ptr 16384 0, some (.box [.pv (.str (tkR (tkR (tkR r 1) (Int.toNat (oneV r))) 1)), .pv (.bool (tkB (tkR (tkR r 1) (Int.toNat (oneV r))) (tkB (tkR r 1) (tkB r b 1) (Int.toNat (oneV r))) 1))])), (.own 20480, some (.dls 6 115 (List.length l + 1) (encIm l ++ [PV.str (Prod.fst (deKy (tkS (tkR r 1) (Int.toNat (oneV r))))), PV.sl (List.length (Prod.snd (deKy (tkS (tkR r 1) (Int.toNat (oneV r)))))) (List.map PV.str (Prod.snd (deKy (tkS (tkR r 1) (Int.toNat (oneV r)))))), PV.bool (zzah5 s r b l n), PV.str { data := #[] }, PV.bool (zzah3 s r b l n), PV.str { data := #[] }]) true none)), (.pv (.int .i64 (IntKind.wrap .i64 (n - 1))), none)]))
 none)))
 none)
 (brC (decide (ByteArray.size (tkS (tkR r 1) (Int.toNat (oneV r))) ≤ 2000))
 (brC (decide (ByteArray.size (tkR (tkR r 1) (Int.toNat (oneV r))) ≤ 2000000))
 (brC (zzah5 s r b l n)
 (brC (decide (ByteArray.size (tkR (tkR (tkR r 1) (Int.toNat (oneV r))) 1) ≤ 2000000))
 (brC (decide (0 ≤ oneV (tkR (tkR (tkR r 1) (Int.toNat (oneV r))) 1)) && decide (ByteArray.size (tkR (tkR (tkR (tkR r 1) (Int.toNat (oneV r))) 1) 1) ≤ 2000000))
 (brC (zzah3 s r b l n)
 (brC (decide (ByteArray.size (zzah0 s r b l n) ≤ 2000000))
 (brC (decide (0 ≤ oneV (zzah0 s r b l n)) && decide (ByteArray.size (tkR (zzah0 s r b l n) 1) ≤ 2000000))
 (brC (zzah2 s r b l n)
 (some (.inl [(.pv (.str s), none), (.ptr 16384 0, some (.box [.pv (.str (tkR (tkR (zzah0 s r b l n) 1) (Int.toNat (oneV (zzah0 s r b l n))))), .pv (.bool (tkB (tkR (zzah0 s r b l n) 1) (tkB (zzah0 s r b l n) (zzah1 s r b l n) 1) (Int.toNat (oneV (zzah0 s r b l n)))))])), (.own 20480, some (.dls 6 115 (List.length l + 1) (encIm l ++ [PV.str { data := #[] }, PV.sl 0 [], PV.bool (zzah5 s r b l n), PV.str (zzah4 s r b l n), PV.bool (zzah3 s r b l n), PV.str (tkS (tkR (zzah0 s r b l n) 1) (Int.toNat (oneV (zzah0 s r b l n))))]) true none)), (.pv (.int .i64 (IntKind.wrap .i64 (n - 1))), none)]))
 none)
 none)
 none)
 (brC (zzah2 s r b l n)
 (some (.inl [(.pv (.str s), none), (.ptr 16384 0, some (.box [.pv (.str (zzah0 s r b l n)), .pv (.bool (zzah1 s r b l n))])), (.own 20480, some (.dls 6 115 (List.length l + 1) (encIm l ++ [PV.str { data := #[] }, PV.sl 0 [], PV.bool (zzah5 s r b l n), PV.str (zzah4 s r b l n), PV.bool (zzah3 s r b l n), PV.str { data := #[] }]) true none)), (.pv (.int .i64 (IntKind.wrap .i64 (n - 1))), none)]))
 none))
 none)
 none)
 (brC (zzah3 s r b l n)
 (brC (decide (ByteArray.size (tkR (tkR (tkR r 1) (Int.toNat (oneV r))) 1) ≤ 2000000))
 (brC (decide (0 ≤ oneV (tkR (tkR (tkR r 1) (Int.toNat (oneV r))) 1)) && decide (ByteArray.size (tkR (tkR (tkR (tkR r 1) (Int.toNat (oneV r))) 1) 1) ≤ 2000000))
 (brC (zzah2 s r b l n)
 (some (.inl [(.pv (.str s), none), (.ptr 16384 0, some (.box [.pv (.str (zzah0 s r b l n)), .pv (.bool (zzah1 s r b l n))])), (.own 20480, some (.dls 6 115 (List.length l + 1) (encIm l ++ [PV.str { data := #[] }, PV.sl 0 [], PV.bool (zzah5 s r b l n), PV.str { data := #[] }, PV.bool (zzah3 s r b l n), PV.str (zzah4 s r b l n)]) true none)), (.pv (.int .i64 (IntKind.wrap .i64 (n - 1))), none)]))
 none)
 none)
 none)
 (brC (zzah2 s r b l n)
 (some (.inl [(.pv (.str s), none), (.ptr 16384 0, some (.box [.pv (.str (tkR (tkR (tkR r 1) (Int.toNat (oneV r))) 1)), .pv (.bool (tkB (tkR (tkR r 1) (Int.toNat (oneV r))) (tkB (tkR r 1) (tkB r b 1) (Int.toNat (oneV r))) 1))])), (.own 20480, some (.dls 6 115 (List.length l + 1) (encIm l ++ [PV.str { data := #[] }, PV.sl 0 [], PV.bool (zzah5 s r b l n), PV.str { data := #[] }, PV.bool (zzah3 s r b l n), PV.str { data := #[] }]) true none)), (.pv (.int .i64 (IntKind.wrap .i64 (n - 1))), none)]))
 none)))
 none)
 none))
 none)
 none)
 (some (.inr (.exit 0, [(.pv (.str s), none), (.ptr 16384 0, some (.box [.pv (.str r), .pv (.bool b)])), (.own 20480, some (.dls 6 115 (List.length l) (encIm l) true none))]))))
 (some (.inr (.exit 0, [(.pv (.str s), none), (.ptr 16384 0, some (.box [.pv (.str r), .pv (.bool b)])), (.own 20480, some (.dls 6 115 (List.length l) (encIm l) true none))]))) := by kernel_rfl
end
section
open Go.RowKit
theorem jrD (r : ByteArray) (n : Nat) : (tkS r n).size ≤ n := by
  unfold tkS
  by_cases h : n ≤ r.size
  · rw [if_pos h, ByteArray.size_extract]; omega
  · rw [if_neg h]; exact Nat.zero_le _
theorem jcs (r : ByteArray) (n : Nat) : (tkR r n).size ≤ r.size := by
  unfold tkR
  by_cases h : n ≤ r.size
  · rw [if_pos h, ByteArray.size_extract]; omega
  · rw [if_neg h]; exact Nat.le_refl _
theorem jbf (r : ByteArray) : 0 ≤ oneV r ∧ oneV r ≤ 255 := by
  unfold oneV numV
  have h1 := jkR (tkS r 1).data.toList
  have h2 := jrD r 1
  rw [jac] at h2
  have h3 : 256 ^ (tkS r 1).data.toList.length ≤ 256 ^ 1 := Nat.pow_le_pow_right (by decide) h2
  omega
theorem je2 (r : ByteArray) : (t1R r).size ≤ r.size := Nat.le_trans (jcs _ _) (jcs _ _)
theorem jic (r : ByteArray) : (t1S r).size ≤ 255 := by
  have := jrD (tkR r 1) (oneV r).toNat
  have h := jbf r
  unfold t1S
  omega
theorem jrw (r : ByteArray) (b : Bool) : (rd1 r b).r.size ≤ r.size := by
  have h1 := je2 r
  have h2 : (r3 r).size ≤ r.size := Nat.le_trans (jcs _ _) h1
  have h3 := je2 (r3 r)
  have h4 := je2 (t1R (r3 r))
  unfold rd1
  dsimp only
  cases bit (flI r) 1 <;> cases bit (flI r) 2 <;> simp only [cond_true, cond_false] <;> omega
theorem jsD : jae Tryz.prog kdb0 := ⟨jn5, jtE, jqv, jok, trivial⟩
theorem jfR (x : ImT) : encIm [x] = [PV.str x.name, PV.sl x.subs.length (x.subs.map PV.str), PV.bool x.had, PV.str x.was, PV.bool x.has, PV.str x.is] := rfl
theorem jsQ (s r : ByteArray) (l : List ImT) (m : Nat) (hr : r.size ≤ 2000000) (hl : l.length ≤ 300) (hm : m ≤ 300) :
    rdB brC Tryz.prog kdb0 lp_gi LO_gi Tryz.f28 3 [] [aS s, aRd 4 r false, aIs 5 l, aI ((m + 1 : Nat) : Int)] = some (.inl [aS s, aRd 4 (rd1 r false).r (rd1 r false).b, aIs 5 (l ++ [(rd1 r false).im]), aI m]) := by
  have tree := jkq s r false l ((m + 1 : Nat) : Int)
  revert tree; try delta zzah5; intro tree
  revert tree; try delta zzah4; intro tree
  revert tree; try delta zzah3; intro tree
  revert tree; try delta zzah2; intro tree
  revert tree; try delta zzah1; intro tree
  revert tree; try delta zzah0; intro tree
  have w1 : IntKind.wrap .i64 (((m + 1 : Nat) : Int) - 1) = (m : Int) := by rw [wrapI (by omega) (by omega)]; omega
  have o1 := jbf r
  have o2 := jbf (r3 r)
  have o3 := jbf (t1R (r3 r))
  have z1 := jcs r 1
  have z2 := je2 r
  have z3 : (r3 r).size ≤ r.size := Nat.le_trans (jcs _ _) z2
  have z4 := jcs (r3 r) 1
  have z5 := je2 (r3 r)
  have z6 := jcs (t1R (r3 r)) 1
  have z7 := jic r
  refine tree.trans ?_
  rw [w1]
  change brC _ (brC _ (brC _ (brC (decide (0 ≤ oneV r) && decide (ByteArray.size (tkR r 1) ≤ 2000000)) (brC (decide (ByteArray.size (t1S r) ≤ 2000) && holds (isKy (t1S r))) _ _) _) _) _) _ = _
  rw [dT (show ((m + 1 : Nat) : Int) > 0 by omega), dT hr, dT o1.1, dT (show (tkR r 1).size ≤ 2000000 by omega), dT (show (t1S r).size ≤ 2000 by omega)]
  have hA : (decide (l.length + 1 ≤ 140737488351232) && decide ((l.length + 1) * 88 ≤ 140737488355328)) = true := by
    rw [decide_eq_true (show l.length + 1 ≤ 140737488351232 by omega), decide_eq_true (show (l.length + 1) * 88 ≤ 140737488355328 by omega)]
    rfl
  rw [hA]
  have y2 : decide ((t1R r).size ≤ 2000000) = true := decide_eq_true (by omega)
  have y3 : decide ((r3 r).size ≤ 2000000) = true := decide_eq_true (by omega)
  have y4 : decide ((tkR (r3 r) 1).size ≤ 2000000) = true := decide_eq_true (by omega)
  have y5 : decide ((t1R (r3 r)).size ≤ 2000000) = true := decide_eq_true (by omega)
  have y6 : decide ((tkR (t1R (r3 r)) 1).size ≤ 2000000) = true := decide_eq_true (by omega)
  have x2 : decide (0 ≤ oneV (r3 r)) = true := decide_eq_true o2.1
  have x3 : decide (0 ≤ oneV (t1R (r3 r))) = true := decide_eq_true o3.1
  unfold t1R at y2 y5 y6 x3
  unfold r3 t1R at y3 y4 y5 y6 x2 x3
  have y7 : decide ((tkS (tkR r 1) (oneV r).toNat).size ≤ 2000) = true := decide_eq_true (show (t1S r).size ≤ 2000 by omega)
  rw [y2, y3, y4, y5, y6, x2, x3, y7]
  unfold aIs
  rw [jfA, List.length_append, jfR, List.length_singleton]
  unfold rd1 kName kSubs
  simp only [bit, flI, b3, t1B, t1S, r3, t1R]
  clear tree o1 o2 o3 z1 z2 z3 z4 z5 z6 z7 y2 y3 y4 y5 y6 y7 x2 x3
  cases hk : holds (isKy (tkS (tkR r 1) (oneV r).toNat)) <;> cases h1 : (bits BinOp.and IntKind.i64 (oneV (tkR (tkR r 1) (oneV r).toNat)) 1 == 1) <;> cases h2 : (bits BinOp.and IntKind.i64 (oneV (tkR (tkR r 1) (oneV r).toNat)) 2 == 2) <;> simp only [Bool.not_false, Bool.and_true, Bool.and_false, brC, cond_true, cond_false] <;> rfl
theorem jqV (s r : ByteArray) (m : Nat) (hr : r.size ≤ 2000000) (hm : m ≤ 300) :
    rdB brC Tryz.prog kdb0 lp_gi LO_gi Tryz.f28 3 [] [aS s, aRd 4 r false, aI0 5, aI ((m + 1 : Nat) : Int)] = some (.inl [aS s, aRd 4 (rd1 r false).r (rd1 r false).b, aIs 5 [(rd1 r false).im], aI m]) := by
  have tree := jlK s r false ((m + 1 : Nat) : Int)
  revert tree; try delta zzag4; intro tree
  revert tree; try delta zzag3; intro tree
  revert tree; try delta zzag2; intro tree
  revert tree; try delta zzag1; intro tree
  revert tree; try delta zzag0; intro tree
  have w1 : IntKind.wrap .i64 (((m + 1 : Nat) : Int) - 1) = (m : Int) := by rw [wrapI (by omega) (by omega)]; omega
  have o1 := jbf r
  have o2 := jbf (r3 r)
  have o3 := jbf (t1R (r3 r))
  have z1 := jcs r 1
  have z2 := je2 r
  have z3 : (r3 r).size ≤ r.size := Nat.le_trans (jcs _ _) z2
  have z4 := jcs (r3 r) 1
  have z5 := je2 (r3 r)
  have z6 := jcs (t1R (r3 r)) 1
  have z7 := jic r
  refine tree.trans ?_
  rw [w1]
  change brC _ (brC _ (brC _ (brC (decide (0 ≤ oneV r) && decide (ByteArray.size (tkR r 1) ≤ 2000000)) (brC (decide (ByteArray.size (t1S r) ≤ 2000) && holds (isKy (t1S r))) _ _) _) _) _) _ = _
  rw [dT (show ((m + 1 : Nat) : Int) > 0 by omega), dT hr, dT o1.1, dT (show (tkR r 1).size ≤ 2000000 by omega), dT (show (t1S r).size ≤ 2000 by omega)]
  have y2 : decide ((t1R r).size ≤ 2000000) = true := decide_eq_true (by omega)
  have y3 : decide ((r3 r).size ≤ 2000000) = true := decide_eq_true (by omega)
  have y4 : decide ((tkR (r3 r) 1).size ≤ 2000000) = true := decide_eq_true (by omega)
  have y5 : decide ((t1R (r3 r)).size ≤ 2000000) = true := decide_eq_true (by omega)
  have y6 : decide ((tkR (t1R (r3 r)) 1).size ≤ 2000000) = true := decide_eq_true (by omega)
  have x2 : decide (0 ≤ oneV (r3 r)) = true := decide_eq_true o2.1
  have x3 : decide (0 ≤ oneV (t1R (r3 r))) = true := decide_eq_true o3.1
  unfold t1R at y2 y5 y6 x3
  unfold r3 t1R at y3 y4 y5 y6 x2 x3
  have y7 : decide ((tkS (tkR r 1) (oneV r).toNat).size ≤ 2000) = true := decide_eq_true (show (t1S r).size ≤ 2000 by omega)
  rw [y2, y3, y4, y5, y6, x2, x3, y7]
  unfold aIs
  rw [jfR, List.length_singleton]
  unfold rd1 kName kSubs
  simp only [bit, flI, b3, t1B, t1S, r3, t1R]
  clear tree o1 o2 o3 z1 z2 z3 z4 z5 z6 z7 y2 y3 y4 y5 y6 y7 x2 x3
  cases hk : holds (isKy (tkS (tkR r 1) (oneV r).toNat)) <;> cases h1 : (bits BinOp.and IntKind.i64 (oneV (tkR (tkR r 1) (oneV r).toNat)) 1 == 1) <;> cases h2 : (bits BinOp.and IntKind.i64 (oneV (tkR (tkR r 1) (oneV r).toNat)) 2 == 2) <;> simp only [Bool.not_false, Bool.and_true, Bool.and_false, brC, cond_true, cond_false] <;> rfl
theorem jr7 (s : ByteArray) : ∀ (m : Nat) (r : ByteArray) (b : Bool) (l : List ImT), r.size ≤ 2000000 → l.length + m ≤ 300 →
    LoopsTo (rdB brC Tryz.prog kdb0 lp_gi LO_gi Tryz.f28 3 []) [aS s, aRd 4 r b, aIs 5 l, aI m] (.exit 0, [aS s, aRd 4 (rdN m r b l).1 (rdN m r b l).2.1, aIs 5 (rdN m r b l).2.2]) := by
  intro m
  induction m with
  | zero =>
    intro r b l hr hl
    refine .done _ _ ((jkq s r b l _).trans ?_)
    try delta zzah5
    try delta zzah4
    try delta zzah3
    try delta zzah2
    try delta zzah1
    try delta zzah0
    rw [dF (show ¬ ((0 : Nat) : Int) > 0 by omega)]
    rfl
  | succ m ih =>
    intro r b l hr hl
    unfold rdN
    cases b with
    | true =>
      rw [if_pos rfl]
      refine .done _ _ ((jkq s r true l _).trans ?_)
      try delta zzah5
      try delta zzah4
      try delta zzah3
      try delta zzah2
      try delta zzah1
      try delta zzah0
      rw [dT (show ((m + 1 : Nat) : Int) > 0 by omega)]
      rfl
    | false =>
      rw [if_neg Bool.false_ne_true]
      have := ih (rd1 r false).r (rd1 r false).b (l ++ [(rd1 r false).im]) (Nat.le_trans (jrw r false) hr) (by rw [List.length_append, List.length_singleton]; omega)
      exact .step _ _ _ (jsQ s r l m hr (by omega) (by omega)) this
theorem jra (s r : ByteArray) (m : Nat) (hr : r.size ≤ 2000000) (hm : m + 1 ≤ 255) :
    LoopsTo (rdB brC Tryz.prog kdb0 lp_gi LO_gi Tryz.f28 3 []) [aS s, aRd 4 r false, aI0 5, aI ((m + 1 : Nat) : Int)] (.exit 0, [aS s, aRd 4 (rdN (m + 1) r false []).1 (rdN (m + 1) r false []).2.1, aIs 5 (rdN (m + 1) r false []).2.2]) := by
  have := jr7 s m (rd1 r false).r (rd1 r false).b [(rd1 r false).im] (Nat.le_trans (jrw r false) hr) (by show 1 + m ≤ 300; omega)
  have e : rdN (m + 1) r false [] = rdN m (rd1 r false).r (rd1 r false).b [(rd1 r false).im] := by
    conv => lhs; unfold rdN
    rw [if_neg Bool.false_ne_true]
    rfl
  rw [e]
  exact .step _ _ _ (jqV s r m hr (by omega)) this
theorem joK (a r : ByteArray) {n : Nat} (h : n = a.size) : tkS (a ++ r) n = a := by
  unfold tkS
  rw [if_pos (by rw [ByteArray.size_append]; omega), h]
  exact ByteArray.extract_append_eq_left rfl
theorem jfG (a r : ByteArray) {n : Nat} (h : n = a.size) : tkR (a ++ r) n = r := by
  unfold tkR
  rw [if_pos (by rw [ByteArray.size_append]; omega), h, ByteArray.size_append]
  exact ByteArray.extract_append_eq_right rfl rfl
theorem jhL (a r : ByteArray) (b : Bool) {n : Nat} (h : n = a.size) : tkB (a ++ r) b n = b := by
  unfold tkB
  rw [if_pos (by rw [ByteArray.size_append]; omega)]
theorem jhY (n : Nat) (r : ByteArray) (h : n ≤ 255) : oneV (litV (n : Int) 1 ++ r) = n := by
  unfold oneV
  rw [joK _ _ (jax _ _).symm, jhX]
  show ((numL [UInt8.ofNat n] : Nat) : Int) = n
  show (((UInt8.ofNat n).toNat + 256 * 0 : Nat) : Int) = n
  rw [UInt8.toNat_ofNat_of_lt' (by simpa using (by omega : n < 256))]
  omega
theorem jc8 (a r : ByteArray) (h : a.size ≤ 255) : t1S (jah a ++ r) = a ∧ t1R (jah a ++ r) = r ∧ ∀ b, t1B (jah a ++ r) b = b := by
  have e : jah a ++ r = litV (a.size : Int) 1 ++ (a ++ r) := by rw [jd4, ByteArray.append_assoc]
  have e1 := jhY a.size (a ++ r) h
  have e2 : tkR (litV (a.size : Int) 1 ++ (a ++ r)) 1 = a ++ r := jfG _ _ (jax _ _).symm
  unfold t1S t1R t1B
  rw [e, e1, e2, Int.toNat_natCast]
  exact ⟨joK _ _ rfl, jfG _ _ rfl, fun b => by rw [jhL _ _ _ (jax _ _).symm, jhL _ _ _ rfl]⟩
theorem jg3 (xs : List ByteArray) (h4 : xs.length ≤ 4) (h24 : ∀ s ∈ xs, s.size ≤ 24) : (encL xs).length ≤ 240 := by
  have := jdX xs h24
  omega
theorem jri (i : ImT) : ∃ k : Nat, kindI i = k ∧ k ≤ 3 ∧ bit (k : Int) 1 = i.had ∧ bit (k : Int) 2 = i.has := by
  unfold kindI
  cases i.had <;> cases i.has
  · exact ⟨0, rfl, by decide, by decide, by decide⟩
  · exact ⟨2, rfl, by decide, by decide, by decide⟩
  · exact ⟨1, rfl, by decide, by decide, by decide⟩
  · exact ⟨3, rfl, by decide, by decide, by decide⟩
theorem jfP {s : ByteArray} (h : sEq s ⟨#[]⟩ = true) : s = ⟨#[]⟩ := jce.1 h
theorem jrC (i : ImT) (r : ByteArray) (h : imgB i = true) : rd1 (imV i ++ r) false = ⟨r, false, i⟩ := by
  obtain ⟨hp, hw, hi⟩ := jdI h
  have hke : keyV2 i.name i.subs = bs (keyL i.name i.subs) := by rw [jeR, if_pos hp]
  have hkz : (keyV2 i.name i.subs).size ≤ 255 := by
    rw [hke, ja5]
    obtain ⟨h1, h2⟩ := jbw hp
    obtain ⟨h3, h4⟩ := jbo h2
    have h6 := jdd h1
    have h5 := jg3 i.subs h3 h4
    rw [jac] at h6
    unfold keyL
    rw [List.length_append, List.length_cons]
    omega
  obtain ⟨k, hk, hk3, hb1, hb2⟩ := jri i
  have e : imV i ++ r = jah (keyV2 i.name i.subs) ++ (litV (k : Int) 1 ++ (valsI i ++ r)) := by
    rw [jen, hk, ByteArray.append_assoc, ByteArray.append_assoc]
  obtain ⟨t1, t2, t3⟩ := jc8 (keyV2 i.name i.subs) (litV (k : Int) 1 ++ (valsI i ++ r)) hkz
  have hdat : (bs (keyL i.name i.subs)).data.toList = keyL i.name i.subs := jaF _
  have hky : holds (isKy (bs (keyL i.name i.subs))) = true := jag ⟨(i.name, i.subs), hdat, hp⟩
  have hde : deKy (bs (keyL i.name i.subs)) = (i.name, i.subs) := jhs hdat hp
  have o1 : flI (imV i ++ r) = k := by unfold flI; rw [e, t2, jhY k _ (by omega)]
  have q1 : r3 (imV i ++ r) = valsI i ++ r := by unfold r3; rw [e, t2, jfG _ _ (jax _ _).symm]
  have q2 : b3 (imV i ++ r) false = false := by unfold b3; rw [e, t2, t3, jhL _ _ _ (jax _ _).symm]
  have q3 : kName (t1S (imV i ++ r)) = i.name := by unfold kName; rw [e, t1, hke, hky, cond_true, hde]
  have q4 : kSubs (t1S (imV i ++ r)) = i.subs := by unfold kSubs; rw [e, t1, hke, hky, cond_true, hde]
  unfold rd1
  rw [o1, hb1, hb2, q1, q2, q3, q4]
  unfold imgB at h
  simp only [Bool.and_eq_true, decide_eq_true_eq] at h
  obtain ⟨⟨⟨⟨⟨_, _⟩, _⟩, h5⟩, h6⟩, _⟩ := h
  unfold valsI
  obtain ⟨nm, sb, hd, ws, hs, is⟩ := i
  dsimp only at h5 h6 hw hi ⊢
  cases hd with
  | true =>
    cases hs with
    | true =>
      simp only [cond_true, if_true]
      obtain ⟨a1, a2, a3⟩ := jc8 ws (jah is ++ r) (by omega)
      obtain ⟨c1, c2, c3⟩ := jc8 is r (by omega)
      rw [ByteArray.append_assoc, a1, a2, a3, c1, c2, c3]
    | false =>
      simp only [cond_true, cond_false, if_true, if_false, Bool.false_eq_true]
      obtain ⟨a1, a2, a3⟩ := jc8 ws r (by omega)
      have : is = ⟨#[]⟩ := jfP (by simpa using h6)
      rw [jcn, a1, a2, a3, this]
  | false =>
    have hw0 : ws = ⟨#[]⟩ := jfP (by simpa using h5)
    cases hs with
    | true =>
      simp only [cond_true, cond_false, if_true, if_false, Bool.false_eq_true]
      obtain ⟨c1, c2, c3⟩ := jc8 is r (by omega)
      rw [jbn, c1, c2, c3, hw0]
    | false =>
      simp only [cond_true, cond_false, if_true, if_false, Bool.false_eq_true]
      have : is = ⟨#[]⟩ := jfP (by simpa using h6)
      rw [jbn, jbn, hw0, this]
theorem jdc : ∀ (l : List ImT) (s : ByteArray), imsT s l = s ++ imsT ⟨#[]⟩ l
  | [], s => by unfold imsT; rw [jcn]
  | x :: t, s => by
    unfold imsT
    rw [jdc t (s ++ imV x), jdc t (⟨#[]⟩ ++ imV x), jbn, ByteArray.append_assoc]
theorem jni : ∀ (l pre : List ImT) (r : ByteArray), (∀ i ∈ l, imgB i = true) → rdN l.length (imsT ⟨#[]⟩ l ++ r) false pre = (r, false, pre ++ l)
  | [], pre, r, _ => by
    unfold imsT
    rw [jbn, List.append_nil]
    rfl
  | x :: t, pre, r, h => by
    have ih := jni t (pre ++ [x]) r fun i hi => h i (List.mem_cons_of_mem _ hi)
    have e : imsT ⟨#[]⟩ (x :: t) ++ r = imV x ++ (imsT ⟨#[]⟩ t ++ r) := by
      rw [show imsT ⟨#[]⟩ (x :: t) = imsT (⟨#[]⟩ ++ imV x) t from rfl, jbn, jdc, ByteArray.append_assoc]
    rw [e, List.length_cons]
    unfold rdN
    rw [if_neg Bool.false_ne_true, jrC x _ (h x (List.mem_cons_self ..))]
    dsimp only
    rw [ih, List.append_assoc]
    rfl
theorem jc0 {xs : List ImT} (h : imgsB xs = true) : oneV (putI xs) = xs.length ∧ tkB (putI xs) false 1 = false ∧ rdN xs.length (tkR (putI xs) 1) false [] = (⟨#[]⟩, false, xs) ∧ 1 ≤ (putI xs).size := by
  obtain ⟨h240, hall⟩ := jbP h
  have e : putI xs = litV (xs.length : Int) 1 ++ (imsT ⟨#[]⟩ xs ++ ⟨#[]⟩) := by rw [jeb, if_pos h, jdc, jcn]
  rw [e]
  refine ⟨jhY xs.length _ (by omega), jhL _ _ _ (jax _ _).symm, ?_, ?_⟩
  · rw [jfG _ _ (jax _ _).symm, jni xs [] ⟨#[]⟩ hall]
    rfl
  · rw [ByteArray.size_append, jax]
    omega
theorem jqA {xs ys : List ImT} (hx : imgsB xs = true) (hy : imgsB ys = true) (h : putI xs = putI ys) : xs = ys := by
  obtain ⟨a1, a2, a3, _⟩ := jc0 hx
  obtain ⟨b1, b2, b3, _⟩ := jc0 hy
  rw [h] at a1 a3
  have hl : xs.length = ys.length := by omega
  rw [hl] at a3
  have := a3.symm.trans b3
  injection this with _ h2
  injection h2 with _ h3
theorem jcw {xs : List ImT} (hx : imgsB xs = true) : decI (putI xs) = xs := by
  have := @Classical.epsilon_spec _ (fun ys : List ImT => imgsB ys = true ∧ putI xs = putI ys) ⟨xs, hx, rfl⟩
  exact (jqA hx this.1 this.2).symm
theorem jnn {xs : List ByteArray} (h : subsB xs = true) : shL xs := by
  obtain ⟨h4, h24⟩ := jbo h
  exact ⟨by omega, fun z hz => by have := h24 z hz; omega⟩
theorem jsz {i : ImT} (h : imgB i = true) : shIm i := by
  obtain ⟨hp, hw, hi⟩ := jdI h
  obtain ⟨n1, n2⟩ := jbw hp
  have := jdd n1
  exact ⟨by omega, jnn n2, by omega, by omega⟩
theorem jdY {xs : List ImT} (h : imgsB xs = true) : shIms xs := by
  obtain ⟨h240, hall⟩ := jbP h
  exact ⟨by omega, fun x hx => jsz (hall x hx)⟩
theorem jrM (r : ByteArray) (b : Bool) : shIm (rd1 r b).im := by
  have z1 := jic (r3 r)
  have z2 := jic (t1R (r3 r))
  have z3 : (⟨#[]⟩ : ByteArray).size = 0 := rfl
  have hk : (kName (t1S r)).size ≤ 1000000 ∧ shL (kSubs (t1S r)) := by
    unfold kName kSubs
    cases hk : holds (isKy (t1S r)) with
    | false => exact ⟨by simp only [cond_false]; omega, ⟨Nat.zero_le _, fun _ h => by cases h⟩⟩
    | true =>
      obtain ⟨⟨s, xs⟩, h3, h4⟩ := jak hk
      have h3 : (t1S r).data.toList = keyL s xs := h3
      have h4 : jaB s xs = true := h4
      obtain ⟨n1, n2⟩ := jbw h4
      have := jdd n1
      rw [cond_true, cond_true, jhs h3 h4]
      exact ⟨by dsimp only; omega, jnn n2⟩
  unfold rd1 shIm
  dsimp only
  refine ⟨hk.1, hk.2, ?_, ?_⟩ <;> cases bit (flI r) 1 <;> cases bit (flI r) 2 <;> simp only [cond_true, cond_false] <;> omega
theorem jrH : ∀ (m : Nat) (r : ByteArray) (b : Bool) (l : List ImT), (∀ x ∈ l, shIm x) → (∀ x ∈ (rdN m r b l).2.2, shIm x) ∧ (rdN m r b l).2.2.length ≤ l.length + m
  | 0, r, b, l, h => ⟨h, Nat.le_refl _⟩
  | m + 1, r, b, l, h => by
    unfold rdN
    split
    · exact ⟨h, by dsimp only; omega⟩
    · obtain ⟨h1, h2⟩ := jrH m (rd1 r b).r (rd1 r b).b (l ++ [(rd1 r b).im]) fun x hx => by
        rcases List.mem_append.1 hx with hx | hx
        · exact h x hx
        · rw [List.mem_singleton.1 hx]; exact jrM r b
      rw [List.length_append, List.length_singleton] at h2
      exact ⟨h1, by omega⟩
theorem jqm : ∀ b ∈ jat (jbc Tryz.f28), jbk Tryz.prog (tabL kdb0) (OL lp_gi) Tryz.f28.ntmps (pbOf []) LO_gi b := by
  refine jaw 3 (by kernel_rfl) (by kernel_rfl) (by kernel_rfl) ?_
  intro ls e ls' hl
  replace hl : pickA (jkd ls) = some (e, ls') := hl
  unfold jkd at hl
  split at hl
  · rename_i s x r b y e c l n
    rcases pick2 hl with ⟨hc, he⟩ | ⟨hn, hc, he⟩
    · cases he
      obtain ⟨hc, k5⟩ := andE hc
      obtain ⟨hc, k4⟩ := andE hc
      obtain ⟨hc, k3⟩ := andE hc
      obtain ⟨hc, k2⟩ := andE hc
      obtain ⟨k0, k1⟩ := andE hc
      rw [nqB k0, nqB k1, nqB k2, nqB k3, ja1 k4]
      refine .done _ _ ((jlK s r b n).trans ?_)
      try delta zzag4
      try delta zzag3
      try delta zzag2
      try delta zzag1
      try delta zzag0
      rw [Bool.or_eq_true, decide_eq_true_eq] at k5
      rcases k5 with k5 | k5
      · rw [dF (show ¬ n > 0 by omega)]
        rfl
      · rw [k5]
        cases decide (n > 0) <;> rfl
    · cases he
      obtain ⟨hc, k7⟩ := andE hc
      obtain ⟨hc, k6⟩ := andE hc
      obtain ⟨hc, k5⟩ := andE hc
      have k4' := hc
      obtain ⟨hc, k4⟩ := andE hc
      obtain ⟨hc, k3⟩ := andE hc
      obtain ⟨hc, k2⟩ := andE hc
      obtain ⟨k0, k1⟩ := andE hc
      rw [k4', Bool.true_and, Bool.or_eq_false_iff, decide_eq_false_iff_not] at hn
      obtain ⟨hn0, hb⟩ := hn
      have k6 := of_decide_eq_true k6
      obtain ⟨m, rfl⟩ : ∃ m : Nat, n = ((m + 1 : Nat) : Int) := ⟨(n - 1).toNat, by omega⟩
      rw [nqB k0, nqB k1, nqB k2, nqB k3, ja1 k4, hb, Int.toNat_natCast]
      exact jra s r m (jak k7) (by omega)
  · cases hl
theorem ok_gi : jab Tryz.prog 28 E_gi := jad mix jsD (lp := lp_gi) (LO := LO_gi) ⟨Tryz.func28, by kernel_rfl, by kernel_rfl⟩ (by kernel_rfl) fun ivs res bxs h => by
  unfold E_gi at h
  split at h
  · rename_i s
    refine ⟨jqm, (jtz s).trans ?_⟩
    have hs : s.size ≤ 2000000 := by
      rcases jlU h with ⟨hc, _⟩ | ⟨_, hc, _⟩ | ⟨_, _, hc, _⟩
      · exact of_decide_eq_true (andE (andE hc).1).1
      · exact of_decide_eq_true (andE hc).1
      · exact of_decide_eq_true hc
    have hd := decide_eq_true hs
    have o1 := jbf s
    have z1 := jcs s 1
    have i0 : isIms (PV.sl 0 []) = true := jaz jfj
    have a0 : asIms (PV.sl 0 []) = [] := jan []
    rw [hd, i0, a0, jbb, dT o1.1, dT o1.2, jag (show (tkR s 1).size ≤ 2000000 by omega)]
    have noth : ¬ jbz s → brC (Nat.beq 16384 16384 && Nat.beq 20480 20480 && Nat.beq 115 115 && Nat.beq 0 0 && true && (decide (oneV s ≤ 0) || tkB s false 1))
        (brC (tkB s false 1)
          (some ((IV.tup [IV.cv (CV.pv PV.nils), IV.cv (CV.pv (PV.bool false))], ([] : List (List CV)))))
          (brC (ByteArray.toList s == [])
            (some ((IV.tup [IV.cv (CV.pv PV.nils), IV.cv (CV.pv (PV.bool false))], [])))
            (brC true
              (brC (!ByteArray.toList (putI []) == ByteArray.toList s)
                (some ((IV.tup [IV.cv (CV.pv PV.nils), IV.cv (CV.pv (PV.bool false))], [])))
                (some ((IV.tup [IV.cv (CV.lst 6 115 0 [] true), IV.cv (CV.pv (PV.bool true))], []))))
              none)))
        (brC (Nat.beq 16384 16384 && Nat.beq 20480 20480 && Nat.beq 115 115 && Nat.beq 0 0 && true && true && true && true)
          (brC (Prod.fst (Prod.snd (rdN (Int.toNat (oneV s)) (tkR s 1) (tkB s false 1) [])))
            (some ((IV.tup [IV.cv (CV.pv PV.nils), IV.cv (CV.pv (PV.bool false))], [])))
            (brC (ByteArray.toList s == [])
              (some ((IV.tup [IV.cv (CV.pv PV.nils), IV.cv (CV.pv (PV.bool false))], [])))
              (brC (isIms (PV.sl (List.length (Prod.snd (Prod.snd (rdN (Int.toNat (oneV s)) (tkR s 1) (tkB s false 1) [])))) (encIm (Prod.snd (Prod.snd (rdN (Int.toNat (oneV s)) (tkR s 1) (tkB s false 1) []))))))
                (brC (!ByteArray.toList (putI (asIms (PV.sl (List.length (Prod.snd (Prod.snd (rdN (Int.toNat (oneV s)) (tkR s 1) (tkB s false 1) [])))) (encIm (Prod.snd (Prod.snd (rdN (Int.toNat (oneV s)) (tkR s 1) (tkB s false 1) []))))))) == ByteArray.toList s)
                  (some ((IV.tup [IV.cv (CV.pv PV.nils), IV.cv (CV.pv (PV.bool false))], [])))
                  (some ((IV.tup [IV.cv (CV.dls 6 115 (List.length (Prod.snd (Prod.snd (rdN (Int.toNat (oneV s)) (tkR s 1) (tkB s false 1) [])))) (encIm (Prod.snd (Prod.snd (rdN (Int.toNat (oneV s)) (tkR s 1) (tkB s false 1) []))))), IV.cv (CV.pv (PV.bool true))], []))))
                none)))
          none) = some (IV.tup [cP .nils, cB false], []) := fun hno => by
      have ne : ∀ l : List ImT, (ByteArray.toList s == ([] : List UInt8)) = false → (ByteArray.toList (putI l) == ByteArray.toList s) = false := fun l h0 => by
        refine beq_eq_false_iff_ne.2 fun e => ?_
        by_cases hl : imgsB l = true
        · exact hno ⟨l, hl, ByteArray.ext (Array.ext' (by rw [← ByteArray.toList_eq, ← ByteArray.toList_eq]; exact e.symm))⟩
        · rw [jeb, if_neg hl] at e
          rw [← e, show (ByteArray.toList (⟨#[]⟩ : ByteArray) == ([] : List UInt8)) = true from jbl []] at h0
          cases h0
      obtain ⟨g1, g2⟩ := jrH (oneV s).toNat (tkR s 1) (tkB s false 1) [] (fun _ h => by cases h)
      generalize hX : rdN (oneV s).toNat (tkR s 1) (tkB s false 1) [] = X at g1 g2 ⊢
      have hsh : shIms X.2.2 := ⟨by rw [List.length_nil] at g2; omega, g1⟩
      rw [show isIms (PV.sl X.2.2.length (encIm X.2.2)) = true from jaz hsh, show asIms (PV.sl X.2.2.length (encIm X.2.2)) = X.2.2 from jan _]
      cases h0 : (ByteArray.toList s == ([] : List UInt8)) with
      | true =>
        cases (decide (oneV s ≤ 0) || tkB s false 1)
        · cases X.2.1 <;> rfl
        · cases tkB s false 1 <;> rfl
      | false =>
        rw [ne [] h0, ne X.2.2 h0]
        cases (decide (oneV s ≤ 0) || tkB s false 1)
        · cases X.2.1 <;> rfl
        · cases tkB s false 1 <;> rfl
    rcases jlU h with ⟨hc, he⟩ | ⟨hn, hc, he⟩ | ⟨hn, hn2, hc, he⟩
    · cases he
      obtain ⟨hc, k2⟩ := andE hc
      obtain ⟨k0, k1⟩ := andE hc
      obtain ⟨xs, hx, rfl⟩ := jak k1
      rw [jcw hx] at k2
      have hnil : xs = [] := List.length_eq_zero_iff.1 (nqB k2)
      subst hnil
      obtain ⟨p1, p2, p3, p4⟩ := jc0 hx
      have hz : (ByteArray.toList (putI []) == ([] : List UInt8)) = false := by
        refine beq_eq_false_iff_ne.2 fun e => ?_
        rw [ByteArray.toList_eq, ← List.length_eq_zero_iff, ← jac] at e
        omega
      rw [p1, p2, hz, beq_self_eq_true]
      rfl
    · cases he
      obtain ⟨k0, k1⟩ := andE hc
      obtain ⟨xs, hx, rfl⟩ := jak k1
      rw [jcw hx, k0, k1, Bool.true_and, Bool.true_and] at hn
      rw [jcw hx]
      obtain ⟨p1, p2, p3, p4⟩ := jc0 hx
      have hlen : 0 < xs.length := by
        rcases Nat.eq_zero_or_pos xs.length with h | h
        · rw [h] at hn; cases hn
        · exact h
      have hz : (ByteArray.toList (putI xs) == ([] : List UInt8)) = false := by
        refine beq_eq_false_iff_ne.2 fun e => ?_
        rw [ByteArray.toList_eq, ← List.length_eq_zero_iff, ← jac] at e
        omega
      have hsh := jdY hx
      rw [p2, p1, Int.toNat_natCast, p3, hz, dF (show ¬ ((xs.length : Nat) : Int) ≤ 0 by omega)]
      dsimp only
      rw [show isIms (PV.sl xs.length (encIm xs)) = true from jaz hsh, show asIms (PV.sl xs.length (encIm xs)) = xs from jan _, beq_self_eq_true]
      rfl
    · cases he
      exact noth fun hk => by
        rw [hc, jag hk] at hn2
        cases hn2
  · cases h
end
section
open Go.RowKit
def digL : Nat → Nat → List UInt8 → List UInt8
  | 0, _, l => l
  | f + 1, k, l => if k = 0 then l else digL f (k / 10) (UInt8.ofNat (48 + k % 10) :: l)
noncomputable def mkV (k : Int) : ByteArray := hidS (bs (109 :: digL 20 k.toNat []))
abbrev jlx : List (Nat × List Nat × List Nat) := [(4, [0, 3], [0, 3])]
noncomputable def jht (ls : LS) : List (Bool × Ex × LS) := match ls with
  | [(.pv (.int .i64 k), none), (.pv (.str s), none)] =>
    [(decide (0 ≤ k) && holds (k ≤ 1000000000) && Nat.beq s.size 0, .exit 0, [aI 0, aS (hidS (bs (digL 20 k.toNat [])))])]
  | _ => []
noncomputable def jll : LoopT := fun k ls => bif Nat.beq k 4 then jht ls else []
noncomputable def r_mkT (br : Br) (k : Int) (s : ByteArray) := rdB br Tryz.prog [] jlx jll Tryz.f117 4 [] [aI k, aS s]
noncomputable def q_mkT (br : Br) (k : Int) := evB br Tryz.prog [] jlx jll Tryz.f117 [cI k]
noncomputable def E_mkT : Entry := fun ivs => match ivs with
  | [.cv (.pv (.int .i64 k))] => [(decide (1 ≤ k) && holds (k ≤ 1000000000), cS (mkV k), [])]
  | _ => []
noncomputable def kfb0 : List (FuncId × Entry) := [(117, E_mkT)]
noncomputable def mkL : Int → List ByteArray → List ByteArray
  | _, [] => []
  | k, _ :: t => mkV k :: mkL (k + 1) t
abbrev jlP : List (Nat × List Nat × List Nat) := [(2, [0, 1, 5], [0, 1])]
abbrev aWL (l : List ByteArray) : AV × Option Ob := (.own 0, some (.lst 1 9 l.length (l.map .str) true))
noncomputable def jhz (ls : LS) : List (Bool × Ex × LS) := match ls with
  | [(.own x, some (.lst 1 e n l true)), (.pv (.int .i64 k), none), (.pv (.int .i64 i), none)] =>
    [(isL (.sl n l) && Nat.beq e 9 && Nat.beq x 0 && (i == 0) && decide (1 ≤ k) && holds (k ≤ 900000000), .exit 0, [aWL (mkL k (asL (.sl n l))), aI (k + (asL (.sl n l)).length)])]
  | _ => []
noncomputable def jlD : LoopT := fun k ls => bif Nat.beq k 2 then jhz ls else []
noncomputable def r_mkS (br : Br) (l : List ByteArray) (k i : Int) := rdB br Tryz.prog kfb0 jlP jlD Tryz.f57 2 [0] [aWL l, aI k, aI i]
noncomputable def q_mkS (br : Br) (l : List ByteArray) (k : Int) := evB br Tryz.prog kfb0 jlP jlD Tryz.f57 [.lk false [] 1 9 l.length (l.map .str) [], cI k]
noncomputable def E_mkS : Entry := fun ivs => match ivs with
  | [.lk false [] 1 e n l [], .cv (.pv (.int .i64 k))] => [(isL (.sl n l) && Nat.beq e 9 && decide (1 ≤ k) && holds (k ≤ 900000000), cI (k + (asL (.sl n l)).length), [[.lst 1 9 n ((mkL k (asL (.sl n l))).map .str) true]])]
  | _ => []
noncomputable def mkI (k : Int) (x : ImT) : ImT := ⟨mkV k, mkL (k + 1) x.subs, decide (Int.tmod (k + 1 + x.subs.length) 3 = 0), mkV (k + 2 + x.subs.length), decide (Int.tmod (k + 3 + x.subs.length) 3 = 0), mkV (k + 4 + x.subs.length)⟩
noncomputable def mkIs : Int → List ImT → List ImT
  | _, [] => []
  | k, x :: t => mkI k x :: mkIs (k + 5 + x.subs.length) t
def mkE : Int → List ImT → Int
  | k, [] => k
  | k, x :: t => mkE (k + 5 + x.subs.length) t
noncomputable def kfb1 : List (FuncId × Entry) := (57, E_mkS) :: kfb0
abbrev jcQ : List (Nat × List Nat × List Nat) := [(2, [0, 1, 5], [0, 1]), (1000000, [], [24]), (1000001, [1600416], [])]
abbrev aWI0 : AV × Option Ob := (.own 0, some (.lst 6 115 0 [] true))
abbrev aWI (l : List PV) (n : Nat) : AV × Option Ob := (.own 0, some (.dls 6 115 n l true none))
noncomputable def jhy (ls : LS) : List (Bool × Ex × LS) := match ls with
  | [(.own x, some (.dls 6 e n l true none)), (.pv (.int .i64 k), none), (.pv (.int .i64 i), none)] =>
    [(isIms (.sl n l) && Nat.beq e 115 && Nat.beq x 0 && (i == 0) && (k == 1) && decide (n ≤ 255), .exit 0, [aWI (encIm (mkIs 1 (asIms (.sl n l)))) n, aI (mkE 1 (asIms (.sl n l)))])]
  | [(.own x, some (.lst 6 e n l true)), (.pv (.int .i64 k), none), (.pv (.int .i64 i), none)] =>
    [(Nat.beq e 115 && Nat.beq x 0 && Nat.beq n 0 && nilB l && (i == 0) && (k == 1), .exit 0, [aWI0, aI 1])]
  | _ => []
noncomputable def jgf : LoopT := fun _ ls => match ls with
  | [(.pv (.sl n l), none), (.pv (.int .i64 k), none), (.pv (.int .i64 i), none)] =>
    [(Nat.beq n 0 && nilB l && (i == 0) && (k == 1), .exit 0, [aP (.sl 0 []), aI 1])]
  | _ => []
noncomputable def jfS : LoopT := fun k ls => bif Nat.beq k 2 then jhy ls else []
noncomputable def r_mkI (br : Br) (n : Nat) (l : List PV) (k i : Int) := rdB br Tryz.prog kfb1 jcQ jfS Tryz.f67 2 [0] [aWI l n, aI k, aI i]
noncomputable def juy (br : Br) (k i : Int) := rdB br Tryz.prog kfb1 jcQ jfS Tryz.f67 2 [0] [aWI0, aI k, aI i]
noncomputable def jt0 (br : Br) (k i : Int) := rdB br Tryz.prog kfb1 jcQ jgf Tryz.f67 2 [] [aP (.sl 0 []), aI k, aI i]
noncomputable def q_mkI (br : Br) (n : Nat) (l : List PV) := evB br Tryz.prog kfb1 jcQ jfS Tryz.f67 [.lk false [] 6 (115 + 2000000) n l [], cI 1]
noncomputable def jtK (br : Br) := evB br Tryz.prog kfb1 jcQ jfS Tryz.f67 [.lk false [] 6 115 0 [] [], cI 1]
noncomputable def juv (br : Br) := evB br Tryz.prog kfb1 jcQ jgf Tryz.f67 [cP (.sl 0 []), cI 1]
noncomputable def E_mkIa : Entry := fun ivs => match ivs with
  | [.lk false [] 6 e n l [], .cv (.pv (.int .i64 k))] =>
    [(Nat.beq e (115 + 2000000) && isIms (.sl n l) && (k == 1) && decide (n ≤ 255), cI (mkE 1 (asIms (.sl n l))), [[.dls 6 115 n (encIm (mkIs 1 (asIms (.sl n l))))]]),
     (Nat.beq e 115 && Nat.beq n 0 && nilB l && (k == 1), cI 1, [[.lst 6 115 0 [] true]])]
  | _ => []
noncomputable def E_mkIb : Entry := fun ivs => match ivs with
  | [.cv (.pv (.sl n l)), .cv (.pv (.int .i64 k))] => [(Nat.beq n 0 && nilB l && (k == 1), cI 1, [])]
  | _ => []
noncomputable def E_mkI : Entry := fun ivs => E_mkIa ivs ++ E_mkIb ivs
abbrev jey : List (Nat × List Nat × List Nat) := [(2, [0, 1, 5], [1])]
noncomputable def jhB (ls : LS) : List (Bool × Ex × LS) := match ls with
  | [(.pv p, none), (.pv (.int .i64 k), none), (.pv (.int .i64 i), none)] =>
    [(isL p && (i == 0) && decide (1 ≤ k) && holds (k ≤ 900000000) && holds (asL p = mkL k (asL p)), .exit 0, [aI (k + (asL p).length)])]
  | _ => []
noncomputable def jk0 : LoopT := fun k ls => bif Nat.beq k 2 then jhB ls else []
noncomputable def r_hdS (br : Br) (l : List ByteArray) (k i : Int) := rdB br Tryz.prog kfb0 jey jk0 Tryz.f59 2 [] [aP (pL l), aI k, aI i]
noncomputable def q_hdS (br : Br) (l : List ByteArray) (k : Int) := evB br Tryz.prog kfb0 jey jk0 Tryz.f59 [cP (pL l), cI k]
noncomputable def E_hdS : Entry := fun ivs => match ivs with
  | [.cv (.pv p), .cv (.pv (.int .i64 k))] => [(isL p && decide (1 ≤ k) && holds (k ≤ 900000000) && holds (asL p = mkL k (asL p)), cI (k + (asL p).length), [])]
  | _ => []
noncomputable def kfb4 : List (FuncId × Entry) := (59, E_hdS) :: kfb0
noncomputable def jhP (ls : LS) : List (Bool × Ex × LS) := match ls with
  | [(.pv p, none), (.pv (.int .i64 k), none), (.pv (.int .i64 i), none)] =>
    [(isIms p && (i == 0) && (k == 1) && decide ((asIms p).length ≤ 255) && holds (asIms p = mkIs 1 (asIms p)), .exit 0, [aI (mkE 1 (asIms p))])]
  | _ => []
noncomputable def jlB : LoopT := fun k ls => bif Nat.beq k 2 then jhP ls else []
noncomputable def r_hdI (br : Br) (l : List ImT) (k i : Int) := rdB br Tryz.prog kfb4 jey jlB Tryz.f68 2 [] [aP (pIms l), aI k, aI i]
noncomputable def q_hdI (br : Br) (l : List ImT) := evB br Tryz.prog kfb4 jey jlB Tryz.f68 [cP (pIms l), cI 1]
noncomputable def E_hdI : Entry := fun ivs => match ivs with
  | [.cv (.pv p), .cv (.pv (.int .i64 k))] => [(isIms p && (k == 1) && decide ((asIms p).length ≤ 255) && holds (asIms p = mkIs 1 (asIms p)), cI (mkE 1 (asIms p)), [])]
  | _ => []
abbrev jb5 : List (Nat × List Nat × List Nat) := [(4, [0, 1, 5], [0, 4])]
noncomputable def jge (ls : LS) : List (Bool × Ex × LS) := match ls with
  | [(.pv p, none), (.pv q, none), (.pv (.int .i64 i), none)] =>
    [(isL p && isL q && (i == 0) && decide ((asL p).length = (asL q).length) && holds (asL p = asL q), .exit 0, [aP p, aX]),
     (isL p && isL q && (i == 0) && decide ((asL p).length = (asL q).length), .ret, [aP p, aB false])]
  | _ => []
noncomputable def jf6 : LoopT := fun k ls => bif Nat.beq k 4 then jge ls else []
noncomputable def jtN (br : Br) (l u : List ByteArray) (i : Int) := rdB br Tryz.prog [] jb5 jf6 Tryz.f55 4 [] [aP (pL l), aP (pL u), aI i]
noncomputable def juu (br : Br) (l u : List ByteArray) := evB br Tryz.prog [] jb5 jf6 Tryz.f55 [cP (pL l), cP (pL u)]
noncomputable def E_eqSt : Entry := fun ivs => match ivs with
  | [.cv (.pv p), .cv (.pv q)] => [(isL p && isL q, cB (holds (asL p = asL q)), [])]
  | _ => []
noncomputable def kfb2 : List (FuncId × Entry) := [(55, E_eqSt)]
noncomputable def jtT (br : Br) (x y : ImT) := evB br Tryz.prog kfb2 [] LO0 Tryz.f123 [cP (pIm x), cP (pIm y)]
noncomputable def E_eqIm : Entry := fun ivs => match ivs with
  | [.cv (.pv p), .cv (.pv q)] => [(isIm p && isIm q, cB (holds (asIm p = asIm q)), [])]
  | _ => []
noncomputable def kfb3 : List (FuncId × Entry) := [(123, E_eqIm)]
noncomputable def je0 (ls : LS) : List (Bool × Ex × LS) := match ls with
  | [(.pv p, none), (.pv q, none), (.pv (.int .i64 i), none)] =>
    [(isIms p && isIms q && (i == 0) && decide ((asIms p).length = (asIms q).length) && holds (asIms p = asIms q), .exit 0, [aP p, aX]),
     (isIms p && isIms q && (i == 0) && decide ((asIms p).length = (asIms q).length), .ret, [aP p, aB false])]
  | _ => []
noncomputable def jfH : LoopT := fun k ls => bif Nat.beq k 4 then je0 ls else []
noncomputable def jtM (br : Br) (l u : List ImT) (i : Int) := rdB br Tryz.prog kfb3 jb5 jfH Tryz.f66 4 [] [aP (pIms l), aP (pIms u), aI i]
noncomputable def jtS (br : Br) (l u : List ImT) := evB br Tryz.prog kfb3 jb5 jfH Tryz.f66 [cP (pIms l), cP (pIms u)]
noncomputable def E_eqIs : Entry := fun ivs => match ivs with
  | [.cv (.pv p), .cv (.pv q)] => [(isIms p && isIms q, cB (holds (asIms p = asIms q)), [])]
  | _ => []
end
section
theorem jp1 (l : List ByteArray) (k : Int) : q_mkS brC l k =
 brC (isL (PV.sl (List.length l) (List.map PV.str l)) && Nat.beq 9 9 && Nat.beq 0 0 && 0 == 0 && decide (1 ≤ k) && holds (k ≤ 900000000))
 (brC (Nat.beq (List.length (mkL k (asL (PV.sl (List.length l) (List.map PV.str l))))) (List.length l))
 (some ((.cv (.pv (.int .i64 (k + (↑(List.length (asL (PV.sl (List.length l) (List.map PV.str l)))) : Int)))), [[.lst 1 9 (List.length l) (List.map PV.str (mkL k (asL (PV.sl (List.length l) (List.map PV.str l))))) true]])))
 none)
 none := by kernel_rfl
theorem jp5 (k : Int) : q_mkT brC k =
 brC (decide (k ≤ 0))
 (some ((.cv (.pv (.str { data := #[109, 48] })), [])))
 (brC (decide (0 ≤ k) && holds (k ≤ 1000000000) && Nat.beq 0 0)
 (brC (decide (1 + ByteArray.size (hidS (bs (digL 20 (Int.toNat k) []))) ≤ 9223372036854775807) && true)
 (some ((.cv (.pv (.str ({ data := #[109] } ++ hidS (bs (digL 20 (Int.toNat k) []))))), [])))
 none)
 none) := by kernel_rfl
theorem jno : jtK brC =
 brC (Nat.beq 115 115 && Nat.beq 0 0 && Nat.beq 0 0 && nilB [] && 0 == 0 && 1 == 1)
 (some ((.cv (.pv (.int .i64 (Int.ofNat 1))), [[.lst 6 115 0 [] true]])))
 none := by kernel_rfl
theorem jqb (l : List ByteArray) (k : Int) : q_hdS brC l k =
 brC (isL (pL l) && 0 == 0 && decide (1 ≤ k) && holds (k ≤ 900000000) && holds (asL (pL l) = mkL k (asL (pL l))))
 (some ((.cv (.pv (.int .i64 (k + (↑(List.length (asL (pL l))) : Int)))), [])))
 none := by kernel_rfl
theorem jqq (n : Nat) (l : List PV) : q_mkI brC n l =
 brC (isIms (PV.sl n l) && Nat.beq (115 + 2000000 - 2000000) 115 && Nat.beq 0 0 && 0 == 0 && 1 == 1 && decide (n ≤ 255))
 (brC (Nat.beq n n)
 (some ((.cv (.pv (.int .i64 (mkE 1 (asIms (PV.sl n l))))), [[.dls 6 115 n (encIm (mkIs 1 (asIms (PV.sl n l))))]])))
 none)
 none := by kernel_rfl
theorem jpn (l : List ByteArray) (u : List ByteArray) : juu brC l u =
 brC ((↑(List.length l) : Int) != (↑(List.length u) : Int))
 (some ((.cv (.pv (.bool false)), [])))
 (brC (isL (pL l) && isL (pL u) && 0 == 0 && decide (List.length (asL (pL l)) = List.length (asL (pL u))) && holds (asL (pL l) = asL (pL u)))
 (some ((.cv (.pv (.bool true)), [])))
 (brC (isL (pL l) && isL (pL u) && 0 == 0 && decide (List.length (asL (pL l)) = List.length (asL (pL u))))
 (some ((.cv (.pv (.bool false)), [])))
 none)) := by kernel_rfl
noncomputable def zzai0 (l : List ImT) (k : Int) (i : Int) := (PV.sl (PV.slN (List.headD (List.drop 1 (List.drop (Int.toNat i * 6) (encIm l))) PV.nilp)) (PV.slL (List.headD (List.drop 1 (List.drop (Int.toNat i * 6) (encIm l))) PV.nilp)))
noncomputable def zzai1 (l : List ImT) (k : Int) (i : Int) := (IntKind.wrap .i64 (k + 1) + (↑(List.length (asL (zzai0 l k i))) : Int) + 1)
theorem jlF (l : List ImT) (k : Int) (i : Int) : r_hdI brC l k i =
 brC (decide (i < (↑(List.length l) : Int)))
 (brC (decide (0 ≤ i) && decide (i < (↑(List.length l) : Int)))
 (brC (Nat.blt 0 (List.length (List.drop 0 (List.drop (Int.toNat i * 6) (encIm l)))) && PV.isStr (List.headD (List.drop 0 (List.drop (Int.toNat i * 6) (encIm l))) PV.nilp) && true)
 (brC (decide (1 ≤ k) && holds (k ≤ 1000000000))
 (brC (!ByteArray.toList (PV.asStr (List.headD (List.drop 0 (List.drop (Int.toNat i * 6) (encIm l))) PV.nilp)) == ByteArray.toList (mkV k))
 (some (.inr (.ret, [(.pv (.int .i64 k), none)])))
 (brC (decide (0 ≤ i) && decide (i < (↑(List.length l) : Int)))
 (brC (Nat.blt 0 (List.length (List.drop 1 (List.drop (Int.toNat i * 6) (encIm l)))) && PV.isSl (List.headD (List.drop 1 (List.drop (Int.toNat i * 6) (encIm l))) PV.nilp) && true)
 (brC (isL (zzai0 l k i) && decide (1 ≤ IntKind.wrap .i64 (k + 1)) && holds (IntKind.wrap .i64 (k + 1) ≤ 900000000) && holds (asL (zzai0 l k i) = mkL (IntKind.wrap .i64 (k + 1)) (asL (zzai0 l k i))))
 (brC (decide (IntKind.wrap .i64 (k + 1) + (↑(List.length (asL (zzai0 l k i))) : Int) < 0))
 (some (.inr (.ret, [(.pv (.int .i64 (IntKind.wrap .i64 (k + 1) + (↑(List.length (asL (zzai0 l k i))) : Int))), none)])))
 (brC (decide (0 ≤ i) && decide (i < (↑(List.length l) : Int)))
 (brC (Nat.blt 0 (List.length (List.drop 2 (List.drop (Int.toNat i * 6) (encIm l)))) && PV.isBool (List.headD (List.drop 2 (List.drop (Int.toNat i * 6) (encIm l))) PV.nilp) && true)
 (brC (!PV.asBool (List.headD (List.drop 2 (List.drop (Int.toNat i * 6) (encIm l))) PV.nilp) == (Int.tmod (IntKind.wrap .i64 (k + 1) + (↑(List.length (asL (zzai0 l k i))) : Int)) 3 == 0))
 (some (.inr (.ret, [(.pv (.int .i64 (IntKind.wrap .i64 (k + 1) + (↑(List.length (asL (zzai0 l k i))) : Int))), none)])))
 (brC (decide (0 ≤ i) && decide (i < (↑(List.length l) : Int)))
 (brC (Nat.blt 0 (List.length (List.drop 3 (List.drop (Int.toNat i * 6) (encIm l)))) && PV.isStr (List.headD (List.drop 3 (List.drop (Int.toNat i * 6) (encIm l))) PV.nilp) && true)
 (brC (decide (1 ≤ IntKind.wrap .i64 (zzai1 l k i)) && holds (IntKind.wrap .i64 (zzai1 l k i) ≤ 1000000000))
 (brC (!ByteArray.toList (PV.asStr (List.headD (List.drop 3 (List.drop (Int.toNat i * 6) (encIm l))) PV.nilp)) == ByteArray.toList (mkV (IntKind.wrap .i64 (zzai1 l k i))))
 (some (.inr (.ret, [(.pv (.int .i64 (IntKind.wrap .i64 (zzai1 l k i))), none)])))
 (brC (decide (0 ≤ i) && decide (i < (↑(List.length l) : Int)))
 (brC (Nat.blt 0 (List.length (List.drop 4 (List.drop (Int.toNat i * 6) (encIm l)))) && PV.isBool (List.headD (List.drop 4 (List.drop (Int.toNat i * 6) (encIm l))) PV.nilp) && true)
 (brC (!PV.asBool (List.headD (List.drop 4 (List.drop (Int.toNat i * 6) (encIm l))) PV.nilp) == (Int.tmod (IntKind.wrap .i64 (IntKind.wrap .i64 (zzai1 l k i) + 1)) 3 == 0))
 (some (.inr (.ret, [(.pv (.int .i64 (IntKind.wrap .i64 (IntKind.wrap .i64 (zzai1 l k i) + 1))), none)])))
 (brC (decide (0 ≤ i) && decide (i < (↑(List.length l) : Int)))
 (brC (Nat.blt 0 (List.length (List.drop 5 (List.drop (Int.toNat i * 6) (encIm l)))) && PV.isStr (List.headD (List.drop 5 (List.drop (Int.toNat i * 6) (encIm l))) PV.nilp) && true)
 (brC (decide (1 ≤ IntKind.wrap .i64 (IntKind.wrap .i64 (IntKind.wrap .i64 (zzai1 l k i) + 1) + 1)) && holds (IntKind.wrap .i64 (IntKind.wrap .i64 (IntKind.wrap .i64 (zzai1 l k i) + 1) + 1) ≤ 1000000000))
 (brC (!ByteArray.toList (PV.asStr (List.headD (List.drop 5 (List.drop (Int.toNat i * 6) (encIm l))) PV.nilp)) == ByteArray.toList (mkV (IntKind.wrap .i64 (IntKind.wrap .i64 (IntKind.wrap .i64 (zzai1 l k i) + 1) + 1))))
 (some (.inr (.ret, [(.pv (.int .i64 (IntKind.wrap .i64 (IntKind.wrap .i64 (IntKind.wrap .i64 (zzai1 l k i) + 1) + 1))), none)])))
 (some (.inl [(.pv (.sl (List.length l) (encIm l)), none), (.pv (.int .i64 (IntKind.wrap .i64 (IntKind.wrap .i64 (IntKind.wrap .i64 (IntKind.wrap .i64 (zzai1 l k i) + 1) + 1) + 1))), none), (.pv (.int .i64 (IntKind.wrap .i64 (i + 1))), none)])))
 none)
 none)
 none))
 none)
 none))
 none)
 none)
 none))
 none)
 none))
 none)
 none)
 none))
 none)
 none)
 none)
 (some (.inr (.exit 0, [(.pv (.int .i64 k), none)]))) := by kernel_rfl
noncomputable def zzaj0 (l : List ImT) (u : List ImT) (i : Int) := (PV.agg [PV.str (PV.asStr (List.headD (List.drop (Int.toNat i * 6) (encIm l)) PV.nilp)), PV.sl (PV.slN (List.headD (List.tail (List.drop (Int.toNat i * 6) (encIm l))) PV.nilp)) (PV.slL (List.headD (List.tail (List.drop (Int.toNat i * 6) (encIm l))) PV.nilp)), PV.bool (PV.asBool (List.headD (List.tail (List.tail (List.drop (Int.toNat i * 6) (encIm l)))) PV.nilp)), PV.str (PV.asStr (List.headD (List.tail (List.tail (List.tail (List.drop (Int.toNat i * 6) (encIm l))))) PV.nilp)), PV.bool (PV.asBool (List.headD (List.tail (List.tail (List.tail (List.tail (List.drop (Int.toNat i * 6) (encIm l)))))) PV.nilp)), PV.str (PV.asStr (List.headD (List.tail (List.tail (List.tail (List.tail (List.tail (List.drop (Int.toNat i * 6) (encIm l))))))) PV.nilp))])
noncomputable def zzaj1 (l : List ImT) (u : List ImT) (i : Int) := (PV.agg [PV.str (PV.asStr (List.headD (List.drop (Int.toNat i * 6) (encIm u)) PV.nilp)), PV.sl (PV.slN (List.headD (List.tail (List.drop (Int.toNat i * 6) (encIm u))) PV.nilp)) (PV.slL (List.headD (List.tail (List.drop (Int.toNat i * 6) (encIm u))) PV.nilp)), PV.bool (PV.asBool (List.headD (List.tail (List.tail (List.drop (Int.toNat i * 6) (encIm u)))) PV.nilp)), PV.str (PV.asStr (List.headD (List.tail (List.tail (List.tail (List.drop (Int.toNat i * 6) (encIm u))))) PV.nilp)), PV.bool (PV.asBool (List.headD (List.tail (List.tail (List.tail (List.tail (List.drop (Int.toNat i * 6) (encIm u)))))) PV.nilp)), PV.str (PV.asStr (List.headD (List.tail (List.tail (List.tail (List.tail (List.tail (List.drop (Int.toNat i * 6) (encIm u))))))) PV.nilp))])
theorem ji3 (l : List ImT) (u : List ImT) (i : Int) : jtM brC l u i =
 brC (decide (i < (↑(List.length l) : Int)))
 (brC (decide (0 ≤ i) && decide (i < (↑(List.length l) : Int)))
 (brC (Nat.ble 6 (List.length (List.drop (Int.toNat i * 6) (encIm l))) && (PV.isStr (List.headD (List.drop (Int.toNat i * 6) (encIm l)) PV.nilp) && (PV.isSl (List.headD (List.tail (List.drop (Int.toNat i * 6) (encIm l))) PV.nilp) && (PV.isBool (List.headD (List.tail (List.tail (List.drop (Int.toNat i * 6) (encIm l)))) PV.nilp) && (PV.isStr (List.headD (List.tail (List.tail (List.tail (List.drop (Int.toNat i * 6) (encIm l))))) PV.nilp) && (PV.isBool (List.headD (List.tail (List.tail (List.tail (List.tail (List.drop (Int.toNat i * 6) (encIm l)))))) PV.nilp) && (PV.isStr (List.headD (List.tail (List.tail (List.tail (List.tail (List.tail (List.drop (Int.toNat i * 6) (encIm l))))))) PV.nilp) && true && true) && true) && true) && true) && true) && true) && true)
 (brC (decide (0 ≤ i) && decide (i < (↑(List.length u) : Int)))
 (brC (Nat.ble 6 (List.length (List.drop (Int.toNat i * 6) (encIm u))) && (PV.isStr (List.headD (List.drop (Int.toNat i * 6) (encIm u)) PV.nilp) && (PV.isSl (List.headD (List.tail (List.drop (Int.toNat i * 6) (encIm u))) PV.nilp) && (PV.isBool (List.headD (List.tail (List.tail (List.drop (Int.toNat i * 6) (encIm u)))) PV.nilp) && (PV.isStr (List.headD (List.tail (List.tail (List.tail (List.drop (Int.toNat i * 6) (encIm u))))) PV.nilp) && (PV.isBool (List.headD (List.tail (List.tail (List.tail (List.tail (List.drop (Int.toNat i * 6) (encIm u)))))) PV.nilp) && (PV.isStr (List.headD (List.tail (List.tail (List.tail (List.tail (List.tail (List.drop (Int.toNat i * 6) (encIm u))))))) PV.nilp) && true && true) && true) && true) && true) && true) && true) && true)
 (brC (isIm (zzaj0 l u i) && isIm (zzaj1 l u i))
 (brC (!holds (asIm (zzaj0 l u i) = asIm (zzaj1 l u i)))
 (some (.inr (.ret, [(.pv (.sl (List.length l) (encIm l)), none), (.pv (.bool false), none)])))
 (some (.inl [(.pv (.sl (List.length l) (encIm l)), none), (.pv (.sl (List.length u) (encIm u)), none), (.pv (.int .i64 (IntKind.wrap .i64 (i + 1))), none)])))
 none)
 none)
 none)
 none)
 none)
 (some (.inr (.exit 0, [(.pv (.sl (List.length l) (encIm l)), none), (.bad, none)]))) := by kernel_rfl
theorem jn1 (x : ImT) (y : ImT) : jtT brC x y =
 brC (!ByteArray.toList (ImT.name x) == ByteArray.toList (ImT.name y))
 (some ((.cv (.pv (.bool false)), [])))
 (brC (isL (PV.sl (List.length (ImT.subs x)) (List.map PV.str (ImT.subs x))) && isL (PV.sl (List.length (ImT.subs y)) (List.map PV.str (ImT.subs y))))
 (brC (!holds (asL (PV.sl (List.length (ImT.subs x)) (List.map PV.str (ImT.subs x))) = asL (PV.sl (List.length (ImT.subs y)) (List.map PV.str (ImT.subs y)))))
 (some ((.cv (.pv (.bool false)), [])))
 (brC (!ImT.had x == ImT.had y)
 (some ((.cv (.pv (.bool false)), [])))
 (brC (!ByteArray.toList (ImT.was x) == ByteArray.toList (ImT.was y))
 (some ((.cv (.pv (.bool false)), [])))
 (brC (!ImT.has x == ImT.has y)
 (some ((.cv (.pv (.bool false)), [])))
 (brC (!ByteArray.toList (ImT.is x) == ByteArray.toList (ImT.is y))
 (some ((.cv (.pv (.bool false)), [])))
 (some ((.cv (.pv (.bool true)), []))))))))
 none) := by kernel_rfl
theorem jnq (k : Int) (i : Int) : jt0 brC k i =
 brC (decide (i < (↑0 : Int)))
 (brC (decide (1 ≤ k) && holds (k ≤ 1000000000))
 (brC (decide (0 ≤ i) && decide (i < (↑0 : Int)))
 none
 none)
 none)
 (some (.inr (.exit 0, [(.pv (.sl 0 []), none), (.pv (.int .i64 k), none)]))) := by kernel_rfl
theorem jo1 (k : Int) (i : Int) : juy brC k i =
 brC (decide (i < (↑0 : Int)))
 (brC (decide (1 ≤ k) && holds (k ≤ 1000000000))
 (brC (decide (0 ≤ i) && decide (i < (↑0 : Int)))
 none
 none)
 none)
 (some (.inr (.exit 0, [(.own 0, some (.lst 6 115 0 [] true)), (.pv (.int .i64 k), none)]))) := by kernel_rfl
theorem jhr (k : Int) (s : ByteArray) : r_mkT brC k s =
 brC (decide (k > 0))
 (brC (decide (ByteArray.size { data := #[UInt8.ofNat (Int.toNat (IntKind.wrap .u8 (IntKind.wrap .i64 (48 + Int.tmod k 10))))] } + ByteArray.size s ≤ 9223372036854775807) && true)
 (some (.inl [(.pv (.int .i64 (IntKind.wrap .i64 (Int.tdiv k 10))), none), (.pv (.str ({ data := #[UInt8.ofNat (Int.toNat (IntKind.wrap .u8 (IntKind.wrap .i64 (48 + Int.tmod k 10))))] } ++ s)), none)]))
 none)
 (some (.inr (.exit 0, [(.pv (.int .i64 k), none), (.pv (.str s), none)]))) := by kernel_rfl
theorem jo6 (l : List ImT) (u : List ImT) : jtS brC l u =
 brC ((↑(List.length l) : Int) != (↑(List.length u) : Int))
 (some ((.cv (.pv (.bool false)), [])))
 (brC (isIms (pIms l) && isIms (pIms u) && 0 == 0 && decide (List.length (asIms (pIms l)) = List.length (asIms (pIms u))) && holds (asIms (pIms l) = asIms (pIms u)))
 (some ((.cv (.pv (.bool true)), [])))
 (brC (isIms (pIms l) && isIms (pIms u) && 0 == 0 && decide (List.length (asIms (pIms l)) = List.length (asIms (pIms u))))
 (some ((.cv (.pv (.bool false)), [])))
 none)) := by kernel_rfl
noncomputable def zzak0 (n : Nat) (l : List PV) (k : Int) (i : Int) := (List.take (Int.toNat i * 6 + 2) (List.take (Int.toNat i * 6 + 1) (List.take (Int.toNat i * 6 + 0) l ++ [PV.str (mkV k)] ++ List.drop (Int.toNat i * 6 + 0 + 1) l) ++ [PV.sl (PV.slN (List.headD (List.drop (Int.toNat i * 6 + 1) (List.take (Int.toNat i * 6 + 0) l ++ [PV.str (mkV k)] ++ List.drop (Int.toNat i * 6 + 0 + 1) l)) PV.nilp)) (List.map PV.str (mkL (IntKind.wrap .i64 (k + 1)) (asL (PV.sl (PV.slN (List.headD (List.drop (Int.toNat i * 6 + 1) (List.take (Int.toNat i * 6 + 0) l ++ [PV.str (mkV k)] ++ List.drop (Int.toNat i * 6 + 0 + 1) l)) PV.nilp)) (PV.slL (List.headD (List.drop (Int.toNat i * 6 + 1) (List.take (Int.toNat i * 6 + 0) l ++ [PV.str (mkV k)] ++ List.drop (Int.toNat i * 6 + 0 + 1) l)) PV.nilp))))))] ++ List.drop (Int.toNat i * 6 + 1 + 1) (List.take (Int.toNat i * 6 + 0) l ++ [PV.str (mkV k)] ++ List.drop (Int.toNat i * 6 + 0 + 1) l)) ++ [PV.bool (Int.tmod (IntKind.wrap .i64 (k + 1) + (↑(List.length (asL (PV.sl (PV.slN (List.headD (List.drop (Int.toNat i * 6 + 1) (List.take (Int.toNat i * 6 + 0) l ++ [PV.str (mkV k)] ++ List.drop (Int.toNat i * 6 + 0 + 1) l)) PV.nilp)) (PV.slL (List.headD (List.drop (Int.toNat i * 6 + 1) (List.take (Int.toNat i * 6 + 0) l ++ [PV.str (mkV k)] ++ List.drop (Int.toNat i * 6 + 0 + 1) l)) PV.nilp))))) : Int)) 3 == 0)] ++ List.drop (Int.toNat i * 6 + 2 + 1) (List.take (Int.toNat i * 6 + 1) (List.take (Int.toNat i * 6 + 0) l ++ [PV.str (mkV k)] ++ List.drop (Int.toNat i * 6 + 0 + 1) l) ++ [PV.sl (PV.slN (List.headD (List.drop (Int.toNat i * 6 + 1) (List.take (Int.toNat i * 6 + 0) l ++ [PV.str (mkV k)] ++ List.drop (Int.toNat i * 6 + 0 + 1) l)) PV.nilp)) (List.map PV.str (mkL (IntKind.wrap .i64 (k + 1)) (asL (PV.sl (PV.slN (List.headD (List.drop (Int.toNat i * 6 + 1) (List.take (Int.toNat i * 6 + 0) l ++ [PV.str (mkV k)] ++ List.drop (Int.toNat i * 6 + 0 + 1) l)) PV.nilp)) (PV.slL (List.headD (List.drop (Int.toNat i * 6 + 1) (List.take (Int.toNat i * 6 + 0) l ++ [PV.str (mkV k)] ++ List.drop (Int.toNat i * 6 + 0 + 1) l)) PV.nilp))))))] ++ List.drop (Int.toNat i * 6 + 1 + 1) (List.take (Int.toNat i * 6 + 0) l ++ [PV.str (mkV k)] ++ List.drop (Int.toNat i * 6 + 0 + 1) l)))
noncomputable def zzak1 (n : Nat) (l : List PV) (k : Int) (i : Int) := (IntKind.wrap .i64 (k + 1) + (↑(List.length (asL (PV.sl (PV.slN (List.headD (List.drop (Int.toNat i * 6 + 1) (List.take (Int.toNat i * 6 + 0) l ++ [PV.str (mkV k)] ++ List.drop (Int.toNat i * 6 + 0 + 1) l)) PV.nilp)) (PV.slL (List.headD (List.drop (Int.toNat i * 6 + 1) (List.take (Int.toNat i * 6 + 0) l ++ [PV.str (mkV k)] ++ List.drop (Int.toNat i * 6 + 0 + 1) l)) PV.nilp))))) : Int) + 1)
noncomputable def zzak2 (n : Nat) (l : List PV) (k : Int) (i : Int) := (List.take (Int.toNat i * 6 + 4) (List.take (Int.toNat i * 6 + 3) (zzak0 n l k i) ++ [PV.str (mkV (IntKind.wrap .i64 (zzak1 n l k i)))] ++ List.drop (Int.toNat i * 6 + 3 + 1) (zzak0 n l k i)) ++ [PV.bool (Int.tmod (IntKind.wrap .i64 (IntKind.wrap .i64 (zzak1 n l k i) + 1)) 3 == 0)] ++ List.drop (Int.toNat i * 6 + 4 + 1) (List.take (Int.toNat i * 6 + 3) (zzak0 n l k i) ++ [PV.str (mkV (IntKind.wrap .i64 (zzak1 n l k i)))] ++ List.drop (Int.toNat i * 6 + 3 + 1) (zzak0 n l k i)))
noncomputable def zzak3 (n : Nat) (l : List PV) (k : Int) (i : Int) := (List.headD (List.drop (Int.toNat i * 6 + 1) (List.take (Int.toNat i * 6 + 0) l ++ [PV.str (mkV k)] ++ List.drop (Int.toNat i * 6 + 0 + 1) l)) PV.nilp)
theorem jk5 (n : Nat) (l : List PV) (k : Int) (i : Int) : r_mkI brC n l k i =
 brC (decide (i < (↑n : Int)))
 (brC (decide (1 ≤ k) && holds (k ≤ 1000000000))
 (brC (decide (0 ≤ i) && decide (i < (↑n : Int)))
 (brC (Nat.ble (Int.toNat i * 6 + 0 + 1) (List.length l) && noKid 115 6 (Int.toNat i * 6 + 0))
 (brC (decide (0 ≤ i) && decide (i < (↑n : Int)))
 (brC (Nat.blt (Int.toNat i * 6 + 1) (List.length (List.take (Int.toNat i * 6 + 0) l ++ [PV.str (mkV k)] ++ List.drop (Int.toNat i * 6 + 0 + 1) l)) && (PV.isSl (zzak3 n l k i) && isKid 115 6 (Int.toNat i * 6 + 1) 1 9))
 (brC (isL (PV.sl (PV.slN (zzak3 n l k i)) (PV.slL (zzak3 n l k i))) && Nat.beq 9 9 && decide (1 ≤ IntKind.wrap .i64 (k + 1)) && holds (IntKind.wrap .i64 (k + 1) ≤ 900000000))
 (brC (decide (0 ≤ i) && decide (i < (↑n : Int)))
 (brC (Nat.ble (Int.toNat i * 6 + 2 + 1) (List.length (List.take (Int.toNat i * 6 + 1) (List.take (Int.toNat i * 6 + 0) l ++ [PV.str (mkV k)] ++ List.drop (Int.toNat i * 6 + 0 + 1) l) ++ [PV.sl (PV.slN (zzak3 n l k i)) (List.map PV.str (mkL (IntKind.wrap .i64 (k + 1)) (asL (PV.sl (PV.slN (zzak3 n l k i)) (PV.slL (zzak3 n l k i))))))] ++ List.drop (Int.toNat i * 6 + 1 + 1) (List.take (Int.toNat i * 6 + 0) l ++ [PV.str (mkV k)] ++ List.drop (Int.toNat i * 6 + 0 + 1) l))) && noKid 115 6 (Int.toNat i * 6 + 2))
 (brC (decide (1 ≤ IntKind.wrap .i64 (zzak1 n l k i)) && holds (IntKind.wrap .i64 (zzak1 n l k i) ≤ 1000000000))
 (brC (decide (0 ≤ i) && decide (i < (↑n : Int)))
 (brC (Nat.ble (Int.toNat i * 6 + 3 + 1) (List.length (zzak0 n l k i)) && noKid 115 6 (Int.toNat i * 6 + 3))
 (brC (decide (0 ≤ i) && decide (i < (↑n : Int)))
 (brC (Nat.ble (Int.toNat i * 6 + 4 + 1) (List.length (List.take (Int.toNat i * 6 + 3) (zzak0 n l k i) ++ [PV.str (mkV (IntKind.wrap .i64 (zzak1 n l k i)))] ++ List.drop (Int.toNat i * 6 + 3 + 1) (zzak0 n l k i))) && noKid 115 6 (Int.toNat i * 6 + 4))
 (brC (decide (1 ≤ IntKind.wrap .i64 (IntKind.wrap .i64 (IntKind.wrap .i64 (zzak1 n l k i) + 1) + 1)) && holds (IntKind.wrap .i64 (IntKind.wrap .i64 (IntKind.wrap .i64 (zzak1 n l k i) + 1) + 1) ≤ 1000000000))
 (brC (decide (0 ≤ i) && decide (i < (↑n : Int)))
 (brC (Nat.ble (Int.toNat i * 6 + 5 + 1) (List.length (zzak2 n l k i)) && noKid 115 6 (Int.toNat i * 6 + 5))
 (some (.inl [(.own 0, some (.dls 6 115 n (List.take (Int.toNat i * 6 + 5) (zzak2 n l k i) ++ [PV.str (mkV (IntKind.wrap .i64 (IntKind.wrap .i64 (IntKind.wrap .i64 (zzak1 n l k i) + 1) + 1)))] ++ List.drop (Int.toNat i * 6 + 5 + 1) (zzak2 n l k i)) true none)), (.pv (.int .i64 (IntKind.wrap .i64 (IntKind.wrap .i64 (IntKind.wrap .i64 (IntKind.wrap .i64 (zzak1 n l k i) + 1) + 1) + 1))), none), (.pv (.int .i64 (IntKind.wrap .i64 (i + 1))), none)]))
 none)
 none)
 none)
 none)
 none)
 none)
 none)
 none)
 none)
 none)
 none)
 none)
 none)
 none)
 none)
 none)
 (some (.inr (.exit 0, [(.own 0, some (.dls 6 115 n l true none)), (.pv (.int .i64 k), none)]))) := by kernel_rfl
theorem jqg (l : List ImT) : q_hdI brC l =
 brC (isIms (pIms l) && 0 == 0 && 1 == 1 && decide (List.length (asIms (pIms l)) ≤ 255) && holds (asIms (pIms l) = mkIs 1 (asIms (pIms l))))
 (some ((.cv (.pv (.int .i64 (mkE 1 (asIms (pIms l))))), [])))
 none := by kernel_rfl
theorem joa : juv brC =
 brC (Nat.beq 0 0 && nilB [] && 0 == 0 && 1 == 1)
 (some ((.cv (.pv (.int .i64 (Int.ofNat 1))), [])))
 none := by kernel_rfl
theorem jlT (l : List ByteArray) (k : Int) (i : Int) : r_mkS brC l k i =
 brC (decide (i < (↑(List.length l) : Int)))
 (brC (decide (1 ≤ k) && holds (k ≤ 1000000000))
 (brC (decide (0 ≤ i) && decide (i < (↑(List.length l) : Int)))
 (brC (Nat.beq (List.length [PV.str (mkV k)]) 1 && Nat.ble (Int.toNat i * 1 + 1) (List.length (List.map PV.str l)))
 (some (.inl [(.own 0, some (.lst 1 9 (List.length l) (List.take (Int.toNat i * 1) (List.map PV.str l) ++ [PV.str (mkV k)] ++ List.drop (Int.toNat i * 1 + 1) (List.map PV.str l)) true)), (.pv (.int .i64 (IntKind.wrap .i64 (k + 1))), none), (.pv (.int .i64 (IntKind.wrap .i64 (i + 1))), none)]))
 none)
 none)
 none)
 (some (.inr (.exit 0, [(.own 0, some (.lst 1 9 (List.length l) (List.map PV.str l) true)), (.pv (.int .i64 k), none)]))) := by kernel_rfl
theorem jk4 (l : List ByteArray) (k : Int) (i : Int) : r_hdS brC l k i =
 brC (decide (i < (↑(List.length l) : Int)))
 (brC (decide (0 ≤ i) && decide (i < (↑(List.length l) : Int)))
 (brC (Nat.blt 0 (List.length (List.drop (Int.toNat i * 1) (List.map PV.str l))) && PV.isStr (List.headD (List.drop (Int.toNat i * 1) (List.map PV.str l)) PV.nilp) && true)
 (brC (decide (1 ≤ k) && holds (k ≤ 1000000000))
 (brC (!ByteArray.toList (PV.asStr (List.headD (List.drop (Int.toNat i * 1) (List.map PV.str l)) PV.nilp)) == ByteArray.toList (mkV k))
 (some (.inr (.ret, [(.pv (.int .i64 k), none)])))
 (some (.inl [(.pv (.sl (List.length l) (List.map PV.str l)), none), (.pv (.int .i64 (IntKind.wrap .i64 (k + 1))), none), (.pv (.int .i64 (IntKind.wrap .i64 (i + 1))), none)])))
 none)
 none)
 none)
 (some (.inr (.exit 0, [(.pv (.int .i64 k), none)]))) := by kernel_rfl
theorem jjl (l : List ByteArray) (u : List ByteArray) (i : Int) : jtN brC l u i =
 brC (decide (i < (↑(List.length l) : Int)))
 (brC (decide (0 ≤ i) && decide (i < (↑(List.length l) : Int)))
 (brC (Nat.blt 0 (List.length (List.drop (Int.toNat i * 1) (List.map PV.str l))) && PV.isStr (List.headD (List.drop (Int.toNat i * 1) (List.map PV.str l)) PV.nilp) && true)
 (brC (decide (0 ≤ i) && decide (i < (↑(List.length u) : Int)))
 (brC (Nat.blt 0 (List.length (List.drop (Int.toNat i * 1) (List.map PV.str u))) && PV.isStr (List.headD (List.drop (Int.toNat i * 1) (List.map PV.str u)) PV.nilp) && true)
 (brC (!ByteArray.toList (PV.asStr (List.headD (List.drop (Int.toNat i * 1) (List.map PV.str l)) PV.nilp)) == ByteArray.toList (PV.asStr (List.headD (List.drop (Int.toNat i * 1) (List.map PV.str u)) PV.nilp)))
 (some (.inr (.ret, [(.pv (.sl (List.length l) (List.map PV.str l)), none), (.pv (.bool false), none)])))
 (some (.inl [(.pv (.sl (List.length l) (List.map PV.str l)), none), (.pv (.sl (List.length u) (List.map PV.str u)), none), (.pv (.int .i64 (IntKind.wrap .i64 (i + 1))), none)])))
 none)
 none)
 none)
 none)
 (some (.inr (.exit 0, [(.pv (.sl (List.length l) (List.map PV.str l)), none), (.bad, none)]))) := by kernel_rfl
end
section
open Go.RowKit
theorem jtQ (k : Nat) : Int.tmod (k : Int) 10 = ((k % 10 : Nat) : Int) := rfl
theorem jup (k : Nat) : Int.tdiv (k : Int) 10 = ((k / 10 : Nat) : Int) := rfl
theorem jp4 : ∀ (f k : Nat) (l : List UInt8), k < 10 ^ f → k ≤ 1000000000 → l.length + f ≤ 100 → LoopsTo (rdB brC Tryz.prog [] jlx jll Tryz.f117 4 []) [aI k, aS (bs l)] (.exit 0, [aI 0, aS (bs (digL f k l))]) := by
  intro f
  induction f with
  | zero =>
    intro k l hk _ _
    obtain rfl : k = 0 := by simpa using hk
    refine .done _ _ ((jhr _ _).trans ?_)
    rw [dF (by omega)]
    rfl
  | succ f ih =>
    intro k l hk hk2 hl
    unfold digL
    by_cases h0 : k = 0
    · subst h0
      rw [if_pos rfl]
      refine .done _ _ ((jhr _ _).trans ?_)
      rw [dF (by omega)]
      rfl
    · rw [if_neg h0]
      have tree := jhr (k : Int) (bs l)
      have w1 : IntKind.wrap .i64 (48 + ((k % 10 : Nat) : Int)) = ((48 + k % 10 : Nat) : Int) := by rw [wrapI (by omega) (by omega)]; omega
      have w2 : IntKind.wrap .i64 ((k / 10 : Nat) : Int) = ((k / 10 : Nat) : Int) := wrapI (by omega) (by omega)
      rw [jtQ, jup, w1, w2, u8w, Int.toNat_natCast, UInt8.ofNat_toNat] at tree
      generalize hc : UInt8.ofNat (48 + k % 10) = c at tree ⊢
      have e1 : ({ data := #[c] } : ByteArray) ++ bs l = bs (c :: l) := jgd [c] l
      have e2 : ({ data := #[c] } : ByteArray).size = 1 := rfl
      have e3 : (bs l).size = l.length := ja5 l
      rw [e1, e2, e3, dT (show (k : Int) > 0 by omega), dT (show 1 + l.length ≤ 9223372036854775807 by omega)] at tree
      have := ih (k / 10) (c :: l) (by rw [Nat.pow_succ] at hk; omega) (by omega) (by rw [List.length_cons]; omega)
      exact .step _ _ _ tree this
theorem jg7 : ∀ (f k : Nat) (l : List UInt8), (digL f k l).length ≤ l.length + f
  | 0, k, l => Nat.le_refl _
  | f + 1, k, l => by
    unfold digL
    split
    · omega
    · have := jg7 f (k / 10) (UInt8.ofNat (48 + k % 10) :: l)
      rw [List.length_cons] at this
      omega
theorem jrA (k : Int) : mkV k = bs (109 :: digL 20 k.toNat []) := jcf _
theorem jeU (k : Int) : (mkV k).size ≤ 21 := by
  rw [jrA, ja5, List.length_cons]
  have := jg7 20 k.toNat []
  rw [List.length_nil] at this
  omega
theorem jnU : jab Tryz.prog 117 E_mkT := jad mix (tab := []) trivial (lp := jlx) (LO := jll) ⟨Tryz.func117, by kernel_rfl, by kernel_rfl⟩ (by kernel_rfl) fun ivs res bxs h => by
  unfold E_mkT at h
  split at h
  · rename_i k
    obtain ⟨hc, he⟩ := pick1 h
    cases he
    obtain ⟨k0, k1⟩ := andE hc
    have k0 := of_decide_eq_true k0
    refine ⟨jaw 4 (by kernel_rfl) (by kernel_rfl) (by kernel_rfl) ?_, (jp5 k).trans ?_⟩
    · intro ls e ls' hl
      replace hl : pickA (jht ls) = some (e, ls') := hl
      unfold jht at hl
      split at hl
      · rename_i k s
        obtain ⟨hc, he⟩ := pick1 hl
        cases he
        obtain ⟨hc, g2⟩ := andE hc
        obtain ⟨g0, g1⟩ := andE hc
        have g0 := of_decide_eq_true g0
        have g1 := jak g1
        obtain ⟨m, rfl⟩ : ∃ m : Nat, k = (m : Int) := ⟨k.toNat, by omega⟩
        rw [ji5 (nqB g2), jcf, Int.toNat_natCast]
        exact jp4 20 m [] (Nat.lt_of_le_of_lt (show m ≤ 1000000000 by omega) (by decide)) (by omega) (by decide)
      · cases hl
    · have hz : (hidS (bs (digL 20 k.toNat []))).size ≤ 20 := by
        rw [jcf, ja5]
        have := jg7 20 k.toNat []
        rw [List.length_nil] at this
        omega
      rw [dF (show ¬ k ≤ 0 by omega), dT (show 0 ≤ k by omega), k1, dT (show 1 + (hidS (bs (digL 20 k.toNat []))).size ≤ 9223372036854775807 by omega), jrA]
      have e : ({ data := #[109] } : ByteArray) ++ hidS (bs (digL 20 k.toNat [])) = bs (109 :: digL 20 k.toNat []) := by rw [jcf]; exact jgd [109] _
      rw [e]
      rfl
  · cases h
theorem jnT : jae Tryz.prog kfb0 := ⟨jnU, trivial⟩
theorem jpl (l u : List ByteArray) (hlu : l.length = u.length) (hl : l.length ≤ 100000) : ∀ (m i : Nat), m + i = l.length → LoopsTo (rdB brC Tryz.prog [] jb5 jf6 Tryz.f55 4 []) [aP (pL l), aP (pL u), aI i] (if holds (l.drop i = u.drop i) = true then (.exit 0, [aP (pL l), aX]) else (.ret, [aP (pL l), aB false])) := by
  intro m
  induction m with
  | zero =>
    intro i hm
    rw [List.drop_eq_nil_of_le (show l.length ≤ i by omega), List.drop_eq_nil_of_le (show u.length ≤ i by omega), if_pos (jag rfl)]
    refine .done _ _ ((jjl l u i).trans ?_)
    rw [dF (by omega)]
    rfl
  | succ m ih =>
    intro i hm
    have hi : i < l.length := by omega
    have hiu : i < u.length := by omega
    have tree := jjl l u i
    simp (disch := omega) only [dT, Int.toNat_natCast, jaJ l i hi, jaJ u i hiu, List.length_cons, List.headD_cons, PV.isStr, PV.asStr, blt0, wrap1, Bool.and_true] at tree
    have ih' := ih (i + 1) (by omega)
    rw [List.drop_eq_getElem_cons hi, List.drop_eq_getElem_cons hiu]
    cases hb : (ByteArray.toList l[i] == ByteArray.toList u[i]) with
    | true =>
      rw [hb] at tree
      have e : l[i] = u[i] := ByteArray.ext (Array.ext' (by rw [← ByteArray.toList_eq, ← ByteArray.toList_eq]; exact eq_of_beq hb))
      have e2 : holds (l[i] :: List.drop (i + 1) l = u[i] :: List.drop (i + 1) u) = holds (List.drop (i + 1) l = List.drop (i + 1) u) := by
        congr 1
        rw [e]
        exact propext ⟨fun h => by injection h, fun h => by rw [h]⟩
      rw [e2]
      exact .step _ _ _ tree ih'
    | false =>
      rw [hb] at tree
      rw [if_neg (fun h => by
        have := jak h
        injection this with h1 _
        rw [h1, beq_self_eq_true] at hb
        cases hb)]
      exact .done _ _ tree
theorem jst : jab Tryz.prog 55 E_eqSt := jad mix (tab := []) trivial (lp := jb5) (LO := jf6) ⟨Tryz.func55, by kernel_rfl, by kernel_rfl⟩ (by kernel_rfl) fun ivs res bxs h => by
  unfold E_eqSt at h
  split at h
  · rename_i p q
    obtain ⟨hc, he⟩ := pick1 h
    cases he
    obtain ⟨k0, k1⟩ := andE hc
    obtain ⟨l, rfl, h_l⟩ := jam k0
    obtain ⟨u, rfl, h_u⟩ := jam k1
    have e_l : asL (pL l) = l := jal l
    have e_u : asL (pL u) = u := jal u
    have i_l : isL (pL l) = true := jaq h_l
    have i_u : isL (pL u) = true := jaq h_u
    rw [e_l, e_u]
    refine ⟨jaw 4 (by kernel_rfl) (by kernel_rfl) (by kernel_rfl) ?_, ?_⟩
    · intro ls e ls' hl
      replace hl : pickA (jge ls) = some (e, ls') := hl
      unfold jge at hl
      split at hl
      · rename_i p q i
        have key : (isL p && isL q && (i == 0) && decide ((asL p).length = (asL q).length)) = true → LoopsTo (rdB brC Tryz.prog [] jb5 jf6 Tryz.f55 4 []) [aP p, aP q, aI i] (if holds (asL p = asL q) = true then (.exit 0, [aP p, aX]) else (.ret, [aP p, aB false])) := fun hc => by
          obtain ⟨hc, g3⟩ := andE hc
          obtain ⟨hc, g2⟩ := andE hc
          obtain ⟨g0, g1⟩ := andE hc
          obtain ⟨t, rfl, h_t⟩ := jam g0
          obtain ⟨v, rfl, h_v⟩ := jam g1
          have e_t : asL (pL t) = t := jal t
          have e_v : asL (pL v) = v := jal v
          rw [e_t, e_v] at g3 ⊢
          rw [eq_of_beq g2]
          exact jpl t v (of_decide_eq_true g3) h_t.1 t.length 0 rfl
        rcases pick2 hl with ⟨hc, he⟩ | ⟨hn, hc, he⟩
        · cases he
          obtain ⟨hc, k⟩ := andE hc
          have := key hc
          rw [if_pos k] at this
          exact this
        · cases he
          have := key hc
          rw [hc, Bool.true_and] at hn
          rw [hn, if_neg Bool.false_ne_true] at this
          exact this
      · cases hl
    · have tree := jpn l u
      rw [i_l, i_u, e_l, e_u] at tree
      by_cases hlen : l.length = u.length
      · have hb : (((l.length : Nat) : Int) == ((u.length : Nat) : Int)) = true := beq_iff_eq.2 (by omega)
        have hb2 : (((l.length : Nat) : Int) != ((u.length : Nat) : Int)) = false := by unfold bne; rw [hb]; rfl
        simp only [hb, hb2, decide_eq_true hlen, Bool.and_true, Bool.true_and, beq_self_eq_true] at tree
        cases hh : holds (l = u) with
        | true => rw [hh] at tree; exact tree.trans rfl
        | false => rw [hh] at tree; exact tree.trans rfl
      · have hb : (((l.length : Nat) : Int) == ((u.length : Nat) : Int)) = false := beq_eq_false_iff_ne.2 (by omega)
        have hb2 : (((l.length : Nat) : Int) != ((u.length : Nat) : Int)) = true := by unfold bne; rw [hb]; rfl
        have hh : holds (l = u) = false := @decide_eq_false _ (Classical.propDecidable _) fun e => hlen (by rw [e])
        simp only [hb, hb2] at tree
        rw [hh]
        exact tree.trans rfl
  · cases h
theorem ba_tl {a b : ByteArray} (h : a.toList = b.toList) : a = b := ByteArray.ext (Array.ext' (by rw [← ByteArray.toList_eq, ← ByteArray.toList_eq]; exact h))
theorem imEq (x y : ImT) : holds (x = y) = ((x.name.toList == y.name.toList) && (holds (x.subs = y.subs) && ((x.had == y.had) && ((x.was.toList == y.was.toList) && ((x.has == y.has) && (x.is.toList == y.is.toList)))))) := by
  rw [Bool.eq_iff_iff]
  constructor
  · intro h
    have e := jak h
    subst e
    rw [jag rfl]
    simp only [beq_self_eq_true, Bool.and_true]
  · intro h
    simp only [Bool.and_eq_true, beq_iff_eq] at h
    obtain ⟨h1, h2, h3, h4, h5, h6⟩ := h
    have h2 := jak h2
    cases x
    cases y
    dsimp only at h1 h2 h3 h4 h5 h6
    rw [ba_tl h1, h2, h3, ba_tl h4, h5, ba_tl h6]
    exact jag rfl
theorem jtq : jae Tryz.prog kfb2 := ⟨jst, trivial⟩
theorem jrT : jab Tryz.prog 123 E_eqIm := jad mix jtq (lp := []) (LO := LO0) ⟨Tryz.func123, by kernel_rfl, by kernel_rfl⟩ (by kernel_rfl) fun ivs res bxs h => by
  unfold E_eqIm at h
  split at h
  · rename_i p q
    obtain ⟨hc, he⟩ := pick1 h
    cases he
    obtain ⟨k0, k1⟩ := andE hc
    obtain ⟨x, rfl, h_x⟩ := jar k0
    obtain ⟨y, rfl, h_y⟩ := jar k1
    have e_x : asIm (pIm x) = x := jdv x
    have e_y : asIm (pIm y) = y := jdv y
    rw [e_x, e_y, imEq]
    refine ⟨jap (by kernel_rfl), (jn1 x y).trans ?_⟩
    have i1 := jaq h_x.2.1
    have i2 := jaq h_y.2.1
    simp only [isL, i1, i2, jal, Bool.and_true]
    generalize (x.name.toList == y.name.toList) = a
    generalize holds (x.subs = y.subs) = b
    generalize (x.had == y.had) = c
    generalize (x.was.toList == y.was.toList) = d
    generalize (x.has == y.has) = e
    generalize (x.is.toList == y.is.toList) = f
    cases a <;> cases b <;> cases c <;> cases d <;> cases e <;> cases f <;> rfl
  · cases h
theorem jtf : jae Tryz.prog kfb3 := ⟨jrT, trivial⟩
theorem jnS (l u : List ImT) (h_l : shIms l) (h_u : shIms u) (hlu : l.length = u.length) : ∀ (m i : Nat), m + i = l.length → LoopsTo (rdB brC Tryz.prog kfb3 jb5 jfH Tryz.f66 4 []) [aP (pIms l), aP (pIms u), aI i] (if holds (l.drop i = u.drop i) = true then (.exit 0, [aP (pIms l), aX]) else (.ret, [aP (pIms l), aB false])) := by
  have hl := h_l.1
  intro m
  induction m with
  | zero =>
    intro i hm
    rw [List.drop_eq_nil_of_le (show l.length ≤ i by omega), List.drop_eq_nil_of_le (show u.length ≤ i by omega), if_pos (jag rfl)]
    refine .done _ _ ((ji3 l u i).trans ?_)
    try delta zzaj1
    try delta zzaj0
    rw [dF (by omega)]
    rfl
  | succ m ih =>
    intro i hm
    have hi : i < l.length := by omega
    have hiu : i < u.length := by omega
    have tree := ji3 l u i
    revert tree; try delta zzaj1; intro tree
    revert tree; try delta zzaj0; intro tree
    simp (disch := first | omega | rfl) only [isIm, jf9 (jcY h_l hi), jf9 (jcY h_u hiu), jdv, dT, Int.toNat_natCast, ja4 l i hi, ja4 u i hiu, List.length_cons, List.headD_cons, List.tail_cons, PV.isStr, PV.asStr, PV.isSl, PV.slN, PV.slL, PV.isBool, PV.asBool, ble1, ble2, ble3, ble4, ble5, ble6, blt0, wrap1, Bool.and_true, Bool.true_and] at tree
    have ih' := ih (i + 1) (by omega)
    rw [List.drop_eq_getElem_cons hi, List.drop_eq_getElem_cons hiu]
    cases hb : holds (l[i] = u[i]) with
    | true =>
      rw [hb] at tree
      have e : l[i] = u[i] := jak hb
      have e2 : holds (l[i] :: List.drop (i + 1) l = u[i] :: List.drop (i + 1) u) = holds (List.drop (i + 1) l = List.drop (i + 1) u) := by
        congr 1
        rw [e]
        exact propext ⟨fun h => by injection h, fun h => by rw [h]⟩
      rw [e2]
      exact .step _ _ _ tree ih'
    | false =>
      rw [hb] at tree
      rw [if_neg (fun h => by
        have := jak h
        injection this with h1 _
        rw [jag h1] at hb
        cases hb)]
      exact .done _ _ tree
theorem jte : jab Tryz.prog 66 E_eqIs := jad mix jtf (lp := jb5) (LO := jfH) ⟨Tryz.func66, by kernel_rfl, by kernel_rfl⟩ (by kernel_rfl) fun ivs res bxs h => by
  unfold E_eqIs at h
  split at h
  · rename_i p q
    obtain ⟨hc, he⟩ := pick1 h
    cases he
    obtain ⟨k0, k1⟩ := andE hc
    obtain ⟨l, rfl, h_l⟩ := jar k0
    obtain ⟨u, rfl, h_u⟩ := jar k1
    have e_l : asIms (pIms l) = l := jan l
    have e_u : asIms (pIms u) = u := jan u
    have i_l : isIms (pIms l) = true := jaz h_l
    have i_u : isIms (pIms u) = true := jaz h_u
    rw [e_l, e_u]
    refine ⟨jaw 4 (by kernel_rfl) (by kernel_rfl) (by kernel_rfl) ?_, ?_⟩
    · intro ls e ls' hl
      replace hl : pickA (je0 ls) = some (e, ls') := hl
      unfold je0 at hl
      split at hl
      · rename_i p q i
        have key : (isIms p && isIms q && (i == 0) && decide ((asIms p).length = (asIms q).length)) = true → LoopsTo (rdB brC Tryz.prog kfb3 jb5 jfH Tryz.f66 4 []) [aP p, aP q, aI i] (if holds (asIms p = asIms q) = true then (.exit 0, [aP p, aX]) else (.ret, [aP p, aB false])) := fun hc => by
          obtain ⟨hc, g3⟩ := andE hc
          obtain ⟨hc, g2⟩ := andE hc
          obtain ⟨g0, g1⟩ := andE hc
          obtain ⟨t, rfl, h_t⟩ := jar g0
          obtain ⟨v, rfl, h_v⟩ := jar g1
          have e_t : asIms (pIms t) = t := jan t
          have e_v : asIms (pIms v) = v := jan v
          rw [e_t, e_v] at g3 ⊢
          rw [eq_of_beq g2]
          exact jnS t v h_t h_v (of_decide_eq_true g3) t.length 0 rfl
        rcases pick2 hl with ⟨hc, he⟩ | ⟨hn, hc, he⟩
        · cases he
          obtain ⟨hc, k⟩ := andE hc
          have := key hc
          rw [if_pos k] at this
          exact this
        · cases he
          have := key hc
          rw [hc, Bool.true_and] at hn
          rw [hn, if_neg Bool.false_ne_true] at this
          exact this
      · cases hl
    · have tree := jo6 l u
      rw [i_l, i_u, e_l, e_u] at tree
      by_cases hlen : l.length = u.length
      · have hb : (((l.length : Nat) : Int) == ((u.length : Nat) : Int)) = true := beq_iff_eq.2 (by omega)
        have hb2 : (((l.length : Nat) : Int) != ((u.length : Nat) : Int)) = false := by unfold bne; rw [hb]; rfl
        simp only [hb, hb2, decide_eq_true hlen, Bool.and_true, Bool.true_and, beq_self_eq_true] at tree
        cases hh : holds (l = u) with
        | true => rw [hh] at tree; exact tree.trans rfl
        | false => rw [hh] at tree; exact tree.trans rfl
      · have hb : (((l.length : Nat) : Int) == ((u.length : Nat) : Int)) = false := beq_eq_false_iff_ne.2 (by omega)
        have hb2 : (((l.length : Nat) : Int) != ((u.length : Nat) : Int)) = true := by unfold bne; rw [hb]; rfl
        have hh : holds (l = u) = false := @decide_eq_false _ (Classical.propDecidable _) fun e => hlen (by rw [e])
        simp only [hb, hb2] at tree
        rw [hh]
        exact tree.trans rfl
  · cases h
theorem jcv : ∀ (k : Int) (l : List ByteArray), (mkL k l).length = l.length
  | k, [] => rfl
  | k, x :: t => by unfold mkL; rw [List.length_cons, List.length_cons, jcv (k + 1) t]
theorem jqL : ∀ (m i : Nat) (l : List ByteArray) (k : Int), m + i = l.length → l.length ≤ 100000 → 1 ≤ k → k ≤ 900000000 + i →
    LoopsTo (rdB brC Tryz.prog kfb0 jlP jlD Tryz.f57 2 [0]) [aWL l, aI k, aI i] (.exit 0, [aWL (l.take i ++ mkL k (l.drop i)), aI (k + m)]) := by
  intro m
  induction m with
  | zero =>
    intro i l k hm hl h1 h2
    rw [List.drop_eq_nil_of_le (show l.length ≤ i by omega), List.take_of_length_le (show l.length ≤ i by omega), show mkL k [] = [] from rfl, List.append_nil, show k + ((0 : Nat) : Int) = k by omega]
    refine .done _ _ ((jlT l k i).trans ?_)
    rw [dF (by omega)]
    rfl
  | succ m ih =>
    intro i l k hm hl h1 h2
    have hi : i < l.length := by omega
    have tree := jlT l k i
    have w1 : IntKind.wrap .i64 (k + 1) = k + 1 := wrapI (by omega) (by omega)
    have q1 : holds (k ≤ 1000000000) = true := jag (by omega)
    have q2 : Nat.ble (i * 1 + 1) (List.map PV.str l).length = true := Nat.ble_eq_true_of_le (by rw [List.length_map]; omega)
    have e1 : List.take (i * 1) (List.map PV.str l) ++ [PV.str (mkV k)] ++ List.drop (i * 1 + 1) (List.map PV.str l) = List.map PV.str (l.take i ++ [mkV k] ++ l.drop (i + 1)) := by
      rw [Nat.mul_one, List.map_append, List.map_append, List.map_take, List.map_drop]
      rfl
    have e2 : (l.take i ++ [mkV k] ++ l.drop (i + 1)).length = l.length := by
      rw [List.length_append, List.length_append, List.length_take, List.length_drop, List.length_singleton]
      omega
    have e3 : (l.take i ++ [mkV k] ++ l.drop (i + 1)).take (i + 1) = l.take i ++ [mkV k] := by
      rw [List.take_left' (by rw [List.length_append, List.length_take, List.length_singleton]; omega)]
    have e4 : (l.take i ++ [mkV k] ++ l.drop (i + 1)).drop (i + 1) = l.drop (i + 1) := by
      rw [List.drop_left' (by rw [List.length_append, List.length_take, List.length_singleton]; omega)]
    rw [Int.toNat_natCast, w1, q1, q2, e1] at tree
    simp (disch := omega) only [dT, wrap1, Bool.and_true, show Nat.beq (List.length [PV.str (mkV k)]) 1 = true from rfl] at tree
    have := ih (i + 1) (l.take i ++ [mkV k] ++ l.drop (i + 1)) (k + 1) (by rw [e2]; omega) (by rw [e2]; omega) (by omega) (by omega)
    rw [e3, e4] at this
    rw [List.drop_eq_getElem_cons hi, show mkL k (l[i] :: l.drop (i + 1)) = [mkV k] ++ mkL (k + 1) (l.drop (i + 1)) from rfl, show k + ((m + 1 : Nat) : Int) = k + 1 + (m : Int) by omega, ← List.append_assoc]
    unfold aWL at this ⊢
    rw [e2] at this
    exact .step _ _ _ tree this
theorem jt3 : jab Tryz.prog 57 E_mkS := jad mix jnT (lp := jlP) (LO := jlD) ⟨Tryz.func57, by kernel_rfl, by kernel_rfl⟩ (by kernel_rfl) fun ivs res bxs h => by
  unfold E_mkS at h
  split at h
  · rename_i e n l k
    obtain ⟨hc, he⟩ := pick1 h
    cases he
    obtain ⟨hc, k3⟩ := andE hc
    obtain ⟨hc, k2⟩ := andE hc
    obtain ⟨k0, k1⟩ := andE hc
    obtain ⟨t, q_t, h_t⟩ := jar k0
    injection q_t with qa qb
    subst qa
    subst qb
    obtain rfl := nqB k1
    have e_t : asL (.sl t.length (t.map .str)) = t := jal t
    refine ⟨jaw 2 (by kernel_rfl) (by kernel_rfl) (by kernel_rfl) ?_, (jp1 t k).trans ?_⟩
    · intro ls e ls' hl
      replace hl : pickA (jhz ls) = some (e, ls') := hl
      unfold jhz at hl
      split at hl
      · rename_i x e n l k i
        obtain ⟨hc, he⟩ := pick1 hl
        cases he
        obtain ⟨hc, g5⟩ := andE hc
        obtain ⟨hc, g4⟩ := andE hc
        obtain ⟨hc, g3⟩ := andE hc
        obtain ⟨hc, g2⟩ := andE hc
        obtain ⟨g0, g1⟩ := andE hc
        obtain ⟨t, q_t, h_t⟩ := jar g0
        injection q_t with qa qb
        subst qa
        subst qb
        have e_t : asL (.sl t.length (t.map .str)) = t := jal t
        obtain rfl := nqB g1
        obtain rfl := nqB g2
        obtain rfl := eq_of_beq g3
        rw [e_t]
        have g5 := jak g5
        have := jqL t.length 0 t k rfl h_t.1 (of_decide_eq_true g4) (by omega)
        rw [List.take_zero, List.nil_append, List.drop_zero] at this
        exact this
      · cases hl
    · rw [e_t, k0, k2, k3, jcv, Nat.beq_refl t.length]
      rfl
  · cases h
def c6 (pre : List PV) (a b c d e f : PV) (post : List PV) : List PV := pre ++ a :: b :: c :: d :: e :: f :: post
theorem jgV {pre : List PV} {i : Nat} (h : pre.length = i * 6) (j : Nat) (mid : List PV) (x : PV) : List.take (i * 6 + j) (pre ++ mid) ++ [x] ++ List.drop (i * 6 + j + 1) (pre ++ mid) = pre ++ (mid.take j ++ [x] ++ mid.drop (j + 1)) := by
  rw [← h, List.take_length_add_append, Nat.add_assoc, List.drop_length_add_append]
  simp only [List.append_assoc]
theorem c6_u0 {pre : List PV} {i : Nat} (h : pre.length = i * 6) (a b c d e f x : PV) (post : List PV) : List.take (i * 6 + 0) (c6 pre a b c d e f post) ++ [x] ++ List.drop (i * 6 + 0 + 1) (c6 pre a b c d e f post) = c6 pre x b c d e f post := jgV h 0 _ x
theorem c6_u1 {pre : List PV} {i : Nat} (h : pre.length = i * 6) (a b c d e f x : PV) (post : List PV) : List.take (i * 6 + 1) (c6 pre a b c d e f post) ++ [x] ++ List.drop (i * 6 + 1 + 1) (c6 pre a b c d e f post) = c6 pre a x c d e f post := jgV h 1 _ x
theorem c6_u2 {pre : List PV} {i : Nat} (h : pre.length = i * 6) (a b c d e f x : PV) (post : List PV) : List.take (i * 6 + 2) (c6 pre a b c d e f post) ++ [x] ++ List.drop (i * 6 + 2 + 1) (c6 pre a b c d e f post) = c6 pre a b x d e f post := jgV h 2 _ x
theorem c6_u3 {pre : List PV} {i : Nat} (h : pre.length = i * 6) (a b c d e f x : PV) (post : List PV) : List.take (i * 6 + 3) (c6 pre a b c d e f post) ++ [x] ++ List.drop (i * 6 + 3 + 1) (c6 pre a b c d e f post) = c6 pre a b c x e f post := jgV h 3 _ x
theorem c6_u4 {pre : List PV} {i : Nat} (h : pre.length = i * 6) (a b c d e f x : PV) (post : List PV) : List.take (i * 6 + 4) (c6 pre a b c d e f post) ++ [x] ++ List.drop (i * 6 + 4 + 1) (c6 pre a b c d e f post) = c6 pre a b c d x f post := jgV h 4 _ x
theorem c6_u5 {pre : List PV} {i : Nat} (h : pre.length = i * 6) (a b c d e f x : PV) (post : List PV) : List.take (i * 6 + 5) (c6 pre a b c d e f post) ++ [x] ++ List.drop (i * 6 + 5 + 1) (c6 pre a b c d e f post) = c6 pre a b c d e x post := jgV h 5 _ x
theorem jrQ {pre : List PV} {i : Nat} (h : pre.length = i * 6) (a b c d e f : PV) (post : List PV) : (c6 pre a b c d e f post).length = i * 6 + 6 + post.length := by
  unfold c6
  rw [List.length_append, h]
  simp only [List.length_cons]
  omega
theorem c6_b {pre : List PV} {i : Nat} (h : pre.length = i * 6) (a b c d e f : PV) (post : List PV) (j : Nat) (hj : j ≤ 5) : Nat.ble (i * 6 + j + 1) (c6 pre a b c d e f post).length = true := Nat.ble_eq_true_of_le (by rw [jrQ h]; omega)
theorem c6_l {pre : List PV} {i : Nat} (h : pre.length = i * 6) (a b c d e f : PV) (post : List PV) : Nat.blt (i * 6 + 1) (c6 pre a b c d e f post).length = true := Nat.ble_eq_true_of_le (by rw [jrQ h]; omega)
theorem c6_h {pre : List PV} {i : Nat} (h : pre.length = i * 6) (a b c d e f : PV) (post : List PV) : List.headD (List.drop (i * 6 + 1) (c6 pre a b c d e f post)) PV.nilp = b := by
  unfold c6
  rw [← h, List.drop_length_add_append]
  rfl
theorem mod6 (i j : Nat) (h : j < 6) : (i * 6 + j) % 6 = j := by omega
theorem jnX (i : Nat) : noKid 115 6 (i * 6 + 0) = true := by
  unfold noKid
  rw [mod6 i 0 (by decide)]
  kernel_rfl
theorem jpd (i : Nat) : noKid 115 6 (i * 6 + 2) = true := by
  unfold noKid
  rw [mod6 i 2 (by decide)]
  kernel_rfl
theorem jpx (i : Nat) : noKid 115 6 (i * 6 + 3) = true := by
  unfold noKid
  rw [mod6 i 3 (by decide)]
  kernel_rfl
theorem jnZ (i : Nat) : noKid 115 6 (i * 6 + 4) = true := by
  unfold noKid
  rw [mod6 i 4 (by decide)]
  kernel_rfl
theorem jo0 (i : Nat) : noKid 115 6 (i * 6 + 5) = true := by
  unfold noKid
  rw [mod6 i 5 (by decide)]
  kernel_rfl
theorem jrg (i : Nat) : isKid 115 6 (i * 6 + 1) 1 9 = true := by
  unfold isKid
  rw [mod6 i 1 (by decide)]
  kernel_rfl
theorem jlp : ∀ (k : Int) (l : List ImT), (mkIs k l).length = l.length
  | k, [] => rfl
  | k, x :: t => by unfold mkIs; rw [List.length_cons, List.length_cons, jlp _ t]
theorem jq8 (n : Nat) (hn : n ≤ 255) : ∀ (l : List ImT) (i : Nat) (pre : List PV) (k : Int), i + l.length = n → pre.length = i * 6 → (∀ x ∈ l, shIm x) → 1 ≤ k → k ≤ 1 + 100010 * i →
    LoopsTo (rdB brC Tryz.prog kfb1 jcQ jfS Tryz.f67 2 [0]) [aWI (pre ++ encIm l) n, aI k, aI i] (.exit 0, [aWI (pre ++ encIm (mkIs k l)) n, aI (mkE k l)]) := by
  intro l
  induction l with
  | nil =>
    intro i pre k hi hp hl h1 h2
    refine .done _ _ ((jk5 _ _ _ _).trans ?_)
    try delta zzak3
    try delta zzak2
    try delta zzak1
    try delta zzak0
    rw [List.length_nil] at hi
    rw [dF (by omega)]
    rfl
  | cons x t ih =>
    intro i pre k hi hp hl h1 h2
    rw [List.length_cons] at hi
    have hx := hl x (List.mem_cons_self ..)
    have hz : x.subs.length ≤ 100000 := hx.2.1.1
    have tree := jk5 n (c6 pre (.str x.name) (.sl x.subs.length (x.subs.map .str)) (.bool x.had) (.str x.was) (.bool x.has) (.str x.is) (encIm t)) k i
    revert tree; try delta zzak3; intro tree
    revert tree; try delta zzak2; intro tree
    revert tree; try delta zzak1; intro tree
    revert tree; try delta zzak0; intro tree
    have wa : IntKind.wrap .i64 (k + 1) = k + 1 := wrapI (by omega) (by omega)
    have wb : IntKind.wrap .i64 (k + 1 + (x.subs.length : Int) + 1) = k + 2 + (x.subs.length : Int) := by rw [wrapI (by omega) (by omega)]; omega
    have wc : IntKind.wrap .i64 (k + 2 + (x.subs.length : Int) + 1) = k + 3 + (x.subs.length : Int) := by rw [wrapI (by omega) (by omega)]; omega
    have wd : IntKind.wrap .i64 (k + 3 + (x.subs.length : Int) + 1) = k + 4 + (x.subs.length : Int) := by rw [wrapI (by omega) (by omega)]; omega
    have we : IntKind.wrap .i64 (k + 4 + (x.subs.length : Int) + 1) = k + 5 + (x.subs.length : Int) := by rw [wrapI (by omega) (by omega)]; omega
    have h0 : holds (k ≤ 1000000000) = true := jag (by omega)
    have h3 : holds (k + 1 ≤ 900000000) = true := jag (by omega)
    have h4 : holds (k + 2 + (x.subs.length : Int) ≤ 1000000000) = true := jag (by omega)
    have h5 : holds (k + 4 + (x.subs.length : Int) ≤ 1000000000) = true := jag (by omega)
    have il : isE pL shL (PV.sl x.subs.length (x.subs.map .str)) = true := jaq hx.2.1
    have al : asE pL (PV.sl x.subs.length (x.subs.map .str)) = x.subs := jal x.subs
    have d0 : decide ((i : Int) < (n : Int)) = true := dT (by omega)
    have d1 : decide (0 ≤ (i : Int)) = true := dT (by omega)
    have d2 : decide (1 ≤ k) = true := dT h1
    have d3 : decide (1 ≤ k + 1) = true := dT (by omega)
    have d4 : decide (1 ≤ k + 2 + (x.subs.length : Int)) = true := dT (by omega)
    have d5 : decide (1 ≤ k + 4 + (x.subs.length : Int)) = true := dT (by omega)
    simp only [Int.toNat_natCast, d0, d1, d2, h0, wa, wrap1 (show i ≤ 2305843009213693952 by omega), c6_u0 hp, c6_u1 hp, c6_u2 hp, c6_u3 hp, c6_u4 hp, c6_u5 hp, c6_b hp _ _ _ _ _ _ _ 0 (by decide), c6_b hp _ _ _ _ _ _ _ 1 (by decide), c6_b hp _ _ _ _ _ _ _ 2 (by decide), c6_b hp _ _ _ _ _ _ _ 3 (by decide), c6_b hp _ _ _ _ _ _ _ 4 (by decide), c6_b hp _ _ _ _ _ _ _ 5 (by decide), c6_l hp, c6_h hp, PV.isSl, PV.slN, PV.slL, jnX i, jpd i, jpx i, jnZ i, jo0 i, jrg i, isL, asL, il, al, Nat.beq_refl, jcv, wb, wc, wd, we, d3, d4, d5, h3, h4, h5, Bool.and_true, Bool.true_and] at tree
    have := ih (i + 1) (pre ++ [.str (mkV k), .sl x.subs.length ((mkL (k + 1) x.subs).map .str), .bool (Int.tmod (k + 1 + (x.subs.length : Int)) 3 == 0), .str (mkV (k + 2 + x.subs.length)), .bool (Int.tmod (k + 3 + (x.subs.length : Int)) 3 == 0), .str (mkV (k + 4 + x.subs.length))]) (k + 5 + x.subs.length) (by omega) (by rw [List.length_append, hp]; simp only [List.length_cons, List.length_nil]; omega) (fun y hy => hl y (List.mem_cons_of_mem _ hy)) (by omega) (by omega)
    rw [List.append_assoc, List.append_assoc] at this
    have e : pre ++ encIm (mkIs k (x :: t)) = pre ++ ([.str (mkV k), .sl x.subs.length ((mkL (k + 1) x.subs).map .str), .bool (Int.tmod (k + 1 + (x.subs.length : Int)) 3 == 0), .str (mkV (k + 2 + x.subs.length)), .bool (Int.tmod (k + 3 + (x.subs.length : Int)) 3 == 0), .str (mkV (k + 4 + x.subs.length))] ++ encIm (mkIs (k + 5 + x.subs.length) t)) := by
      rw [show mkIs k (x :: t) = mkI k x :: mkIs (k + 5 + x.subs.length) t from rfl, show ∀ (y : ImT) (u : List ImT), encIm (y :: u) = [PV.str y.name, PV.sl y.subs.length (y.subs.map PV.str), PV.bool y.had, PV.str y.was, PV.bool y.has, PV.str y.is] ++ encIm u from fun _ _ => rfl]
      simp only [mkI, jcv]
      rfl
    rw [e]
    exact .step _ _ _ tree this
theorem jqU {α : Type} {l m : List (Bool × α)} {q : α} (h : pickA (l ++ m) = some q) : pickA l = some q ∨ pickA m = some q := by
  induction l with
  | nil => exact .inr h
  | cons a t ih =>
    obtain ⟨c, r⟩ := a
    cases c with
    | true => exact .inl h
    | false => exact ih h
theorem jpQ {P : Program} {g : FuncId} {E1 E2 : Entry} (h1 : jab P g E1) (h2 : jab P g E2) : jab P g (fun ivs => E1 ivs ++ E2 ivs) :=
  ⟨h1.1, fun ivs res bxs h => (jqU h).elim (h1.2 ivs res bxs) (h2.2 ivs res bxs)⟩
theorem jnc : jae Tryz.prog kfb1 := ⟨jt3, jnU, trivial⟩
theorem jiQ : ∀ b ∈ jat (jbc Tryz.f67), jbk Tryz.prog (tabL kfb1) (OL jcQ) Tryz.f67.ntmps (pbOf [0]) jfS b := by
  refine jaw 2 (by kernel_rfl) (by kernel_rfl) (by kernel_rfl) ?_
  intro ls e ls' hl
  replace hl : pickA (jhy ls) = some (e, ls') := hl
  unfold jhy at hl
  split at hl
  · rename_i x e n l k i
    obtain ⟨hc, he⟩ := pick1 hl
    cases he
    obtain ⟨hc, g5⟩ := andE hc
    obtain ⟨hc, g4⟩ := andE hc
    obtain ⟨hc, g3⟩ := andE hc
    obtain ⟨hc, g2⟩ := andE hc
    obtain ⟨g0, g1⟩ := andE hc
    obtain ⟨t, q_t, h_t⟩ := jar g0
    injection q_t with qa qb
    subst qa
    subst qb
    have e_t : asE pIms (.sl t.length (encIm t)) = t := jan t
    obtain rfl := nqB g1
    obtain rfl := nqB g2
    obtain rfl := eq_of_beq g3
    obtain rfl := eq_of_beq g4
    unfold asIms
    rw [e_t]
    exact jq8 t.length (of_decide_eq_true g5) t 0 [] 1 (by omega) rfl h_t.2 (by decide) (by decide)
  · rename_i x e n l k i
    obtain ⟨hc, he⟩ := pick1 hl
    cases he
    obtain ⟨hc, g5⟩ := andE hc
    obtain ⟨hc, g4⟩ := andE hc
    obtain ⟨hc, g3⟩ := andE hc
    obtain ⟨hc, g2⟩ := andE hc
    obtain ⟨g0, g1⟩ := andE hc
    obtain rfl := nqB g0
    obtain rfl := nqB g1
    obtain rfl := nqB g2
    obtain rfl := ja1 g3
    obtain rfl := eq_of_beq g4
    obtain rfl := eq_of_beq g5
    refine .done _ _ ((jo1 1 0).trans ?_)
    rw [dF (by omega)]
    rfl
  · cases hl
theorem jmH : ∀ b ∈ jat (jbc Tryz.f67), jbk Tryz.prog (tabL kfb1) (OL jcQ) Tryz.f67.ntmps (pbOf []) jgf b := by
  refine jaw 2 (by kernel_rfl) (by kernel_rfl) (by kernel_rfl) ?_
  intro ls e ls' hl
  unfold jgf at hl
  split at hl
  · rename_i n l k i
    obtain ⟨hc, he⟩ := pick1 hl
    cases he
    obtain ⟨hc, g3⟩ := andE hc
    obtain ⟨hc, g2⟩ := andE hc
    obtain ⟨g0, g1⟩ := andE hc
    obtain rfl := nqB g0
    obtain rfl := ja1 g1
    obtain rfl := eq_of_beq g2
    obtain rfl := eq_of_beq g3
    refine .done _ _ ((jnq 1 0).trans ?_)
    rw [dF (by omega)]
    rfl
  · cases hl
theorem jsX : jab Tryz.prog 67 E_mkIa := jad mix jnc (lp := jcQ) (LO := jfS) ⟨Tryz.func67, by kernel_rfl, by kernel_rfl⟩ (by kernel_rfl) fun ivs res bxs h => by
  unfold E_mkIa at h
  split at h
  · rename_i e n l k
    rcases pick2 h with ⟨hc, he⟩ | ⟨hn, hc, he⟩
    · cases he
      obtain ⟨hc, g3⟩ := andE hc
      obtain ⟨hc, g2⟩ := andE hc
      obtain ⟨g0, g1⟩ := andE hc
      obtain rfl := nqB g0
      obtain rfl := eq_of_beq g2
      refine ⟨jiQ, (jqq n l).trans ?_⟩
      rw [g1, g3, Nat.beq_refl n]
      rfl
    · cases he
      obtain ⟨hc, g3⟩ := andE hc
      obtain ⟨hc, g2⟩ := andE hc
      obtain ⟨g0, g1⟩ := andE hc
      obtain rfl := nqB g0
      obtain rfl := nqB g1
      obtain rfl := ja1 g2
      obtain rfl := eq_of_beq g3
      refine ⟨jiQ, jno.trans ?_⟩
      rw [jbb]
      rfl
  · cases h
theorem jsi : jab Tryz.prog 67 E_mkIb := jad mix jnc (lp := jcQ) (LO := jgf) ⟨Tryz.func67, by kernel_rfl, by kernel_rfl⟩ (by kernel_rfl) fun ivs res bxs h => by
  unfold E_mkIb at h
  split at h
  · rename_i n l k
    obtain ⟨hc, he⟩ := pick1 h
    cases he
    obtain ⟨hc, g2⟩ := andE hc
    obtain ⟨g0, g1⟩ := andE hc
    obtain rfl := nqB g0
    obtain rfl := ja1 g1
    obtain rfl := eq_of_beq g2
    refine ⟨jmH, joa.trans ?_⟩
    rw [jbb]
    rfl
  · cases h
theorem jt6 : jab Tryz.prog 67 E_mkI := jpQ jsX jsi
theorem jlN : ∀ (k : Int) (l : List ByteArray), mkL k (mkL k l) = mkL k l
  | k, [] => rfl
  | k, x :: t => by
    show mkV k :: mkL (k + 1) (mkL (k + 1) t) = mkV k :: mkL (k + 1) t
    rw [jlN]
theorem jql (k : Int) (x : ImT) : mkI k (mkI k x) = mkI k x := by
  unfold mkI
  simp only [jcv, jlN]
theorem ji1 : ∀ (k : Int) (l : List ImT), mkIs k (mkIs k l) = mkIs k l
  | k, [] => rfl
  | k, x :: t => by
    show mkI k (mkI k x) :: mkIs (k + 5 + (mkL (k + 1) x.subs).length) (mkIs (k + 5 + x.subs.length) t) = mkI k x :: mkIs (k + 5 + x.subs.length) t
    rw [jql, jcv, ji1]
theorem jrG : ∀ (k : Int) (l : List ImT), mkE k (mkIs k l) = mkE k l
  | k, [] => rfl
  | k, x :: t => by
    show mkE (k + 5 + (mkL (k + 1) x.subs).length) (mkIs (k + 5 + x.subs.length) t) = mkE (k + 5 + x.subs.length) t
    rw [jcv, jrG]
theorem jqW : ∀ (m i : Nat) (l : List ByteArray) (k : Int), m + i = l.length → l.length ≤ 100000 → 1 ≤ k → k ≤ 900000000 + i → l.drop i = mkL k (l.drop i) →
    LoopsTo (rdB brC Tryz.prog kfb0 jey jk0 Tryz.f59 2 []) [aP (pL l), aI k, aI i] (.exit 0, [aI (k + m)]) := by
  intro m
  induction m with
  | zero =>
    intro i l k hm hl h1 h2 hd
    rw [show k + ((0 : Nat) : Int) = k by omega]
    refine .done _ _ ((jk4 l k i).trans ?_)
    rw [dF (by omega)]
    rfl
  | succ m ih =>
    intro i l k hm hl h1 h2 hd
    have hi : i < l.length := by omega
    have tree := jk4 l k i
    have w1 : IntKind.wrap .i64 (k + 1) = k + 1 := wrapI (by omega) (by omega)
    have q1 : holds (k ≤ 1000000000) = true := jag (by omega)
    rw [List.drop_eq_getElem_cons hi, show mkL k (l[i] :: l.drop (i + 1)) = mkV k :: mkL (k + 1) (l.drop (i + 1)) from rfl] at hd
    injection hd with he hd
    simp (disch := omega) only [dT, Int.toNat_natCast, jaJ l i hi, List.length_cons, List.headD_cons, PV.isStr, PV.asStr, blt0, wrap1, w1, q1, he, bne_self_eq_false, beq_self_eq_true, Bool.not_true, Bool.and_true] at tree
    have := ih (i + 1) l (k + 1) (by omega) hl (by omega) (by omega) hd
    rw [show k + ((m + 1 : Nat) : Int) = k + 1 + (m : Int) by omega]
    exact .step _ _ _ tree this
theorem jui : jab Tryz.prog 59 E_hdS := jad mix jnT (lp := jey) (LO := jk0) ⟨Tryz.func59, by kernel_rfl, by kernel_rfl⟩ (by kernel_rfl) fun ivs res bxs h => by
  unfold E_hdS at h
  split at h
  · rename_i p k
    obtain ⟨hc, he⟩ := pick1 h
    cases he
    obtain ⟨hc, k3⟩ := andE hc
    obtain ⟨hc, k2⟩ := andE hc
    obtain ⟨k0, k1⟩ := andE hc
    obtain ⟨t, rfl, h_t⟩ := jam k0
    have e_t : asL (pL t) = t := jal t
    refine ⟨jaw 2 (by kernel_rfl) (by kernel_rfl) (by kernel_rfl) ?_, (jqb t k).trans ?_⟩
    · intro ls e ls' hl
      replace hl : pickA (jhB ls) = some (e, ls') := hl
      unfold jhB at hl
      split at hl
      · rename_i p k i
        obtain ⟨hc, he⟩ := pick1 hl
        cases he
        obtain ⟨hc, g4⟩ := andE hc
        obtain ⟨hc, g3⟩ := andE hc
        obtain ⟨hc, g2⟩ := andE hc
        obtain ⟨g0, g1⟩ := andE hc
        obtain ⟨t, rfl, h_t⟩ := jam g0
        have e_t : asL (pL t) = t := jal t
        obtain rfl := eq_of_beq g1
        rw [e_t] at g4 ⊢
        have g3 := jak g3
        exact jqW t.length 0 t k rfl h_t.1 (of_decide_eq_true g2) (by omega) (jak g4)
      · cases hl
    · rw [e_t] at k3 ⊢
      rw [k0, k1, k2, k3]
      rfl
  · cases h
theorem jsT : jae Tryz.prog kfb4 := ⟨jui, jnU, trivial⟩
theorem jrr : ∀ (l u : List ImT) (i : Nat) (k : Int), u = l.drop i → i + u.length = l.length → l.length ≤ 255 → (∀ x ∈ u, shIm x) → 1 ≤ k → k ≤ 1 + 100010 * i → u = mkIs k u →
    LoopsTo (rdB brC Tryz.prog kfb4 jey jlB Tryz.f68 2 []) [aP (pIms l), aI k, aI i] (.exit 0, [aI (mkE k u)]) := by
  intro l u
  induction u with
  | nil =>
    intro i k hu hi hn hl h1 h2 hd
    refine .done _ _ ((jlF _ _ _).trans ?_)
    try delta zzai1
    try delta zzai0
    rw [List.length_nil] at hi
    rw [dF (by omega)]
    rfl
  | cons x t ih =>
    intro i k hu hi hn hl h1 h2 hd
    rw [List.length_cons] at hi
    have hil : i < l.length := by omega
    have hx := hl x (List.mem_cons_self ..)
    have hz : x.subs.length ≤ 100000 := hx.2.1.1
    have tree := jlF l k i
    revert tree; try delta zzai1; intro tree
    revert tree; try delta zzai0; intro tree
    rw [List.drop_eq_getElem_cons hil] at hu
    injection hu with hu1 hu2
    have hdr := ja4 l i hil
    rw [← hu1, ← hu2] at hdr
    rw [show mkIs k (x :: t) = mkI k x :: mkIs (k + 5 + x.subs.length) t from rfl] at hd
    injection hd with hd1 hd2
    have f1 : x.name = mkV k := congrArg ImT.name hd1
    have f2 : x.subs = mkL (k + 1) x.subs := congrArg ImT.subs hd1
    have f3 : x.had = decide (Int.tmod (k + 1 + x.subs.length) 3 = 0) := congrArg ImT.had hd1
    have f4 : x.was = mkV (k + 2 + x.subs.length) := congrArg ImT.was hd1
    have f5 : x.has = decide (Int.tmod (k + 3 + x.subs.length) 3 = 0) := congrArg ImT.has hd1
    have f6 : x.is = mkV (k + 4 + x.subs.length) := congrArg ImT.is hd1
    have wa : IntKind.wrap .i64 (k + 1) = k + 1 := wrapI (by omega) (by omega)
    have wb : IntKind.wrap .i64 (k + 1 + (x.subs.length : Int) + 1) = k + 2 + (x.subs.length : Int) := by rw [wrapI (by omega) (by omega)]; omega
    have wc : IntKind.wrap .i64 (k + 2 + (x.subs.length : Int) + 1) = k + 3 + (x.subs.length : Int) := by rw [wrapI (by omega) (by omega)]; omega
    have wd : IntKind.wrap .i64 (k + 3 + (x.subs.length : Int) + 1) = k + 4 + (x.subs.length : Int) := by rw [wrapI (by omega) (by omega)]; omega
    have we : IntKind.wrap .i64 (k + 4 + (x.subs.length : Int) + 1) = k + 5 + (x.subs.length : Int) := by rw [wrapI (by omega) (by omega)]; omega
    have h0 : holds (k ≤ 1000000000) = true := jag (by omega)
    have h3 : holds (k + 1 ≤ 900000000) = true := jag (by omega)
    have h4 : holds (k + 2 + (x.subs.length : Int) ≤ 1000000000) = true := jag (by omega)
    have h5 : holds (k + 4 + (x.subs.length : Int) ≤ 1000000000) = true := jag (by omega)
    have h6 : holds (x.subs = mkL (k + 1) x.subs) = true := jag f2
    have il : isE pL shL (PV.sl x.subs.length (x.subs.map .str)) = true := jaq hx.2.1
    have al : asE pL (PV.sl x.subs.length (x.subs.map .str)) = x.subs := jal x.subs
    have d0 : decide ((i : Int) < (l.length : Int)) = true := dT (by omega)
    have d1 : decide (0 ≤ (i : Int)) = true := dT (by omega)
    have d2 : decide (1 ≤ k) = true := dT h1
    have d3 : decide (1 ≤ k + 1) = true := dT (by omega)
    have d4 : decide (1 ≤ k + 2 + (x.subs.length : Int)) = true := dT (by omega)
    have d5 : decide (1 ≤ k + 4 + (x.subs.length : Int)) = true := dT (by omega)
    have d6 : decide (k + 1 + (x.subs.length : Int) < 0) = false := dF (by omega)
    simp only [Int.toNat_natCast, hdr, List.drop_zero, List.drop_succ_cons, d0, d1, d2, h0, wa, wrap1 (show i ≤ 2305843009213693952 by omega), List.length_cons, List.headD_cons, List.tail_cons, PV.isStr, PV.asStr, PV.isBool, PV.asBool, PV.isSl, PV.slN, PV.slL, ble1, ble2, ble3, ble4, ble5, ble6, blt0, isL, asL, il, al, h6, Nat.beq_refl, wb, wc, wd, we, d3, d4, d5, d6, h3, h4, h5, Bool.and_true, Bool.true_and] at tree
    have b1 : (x.name.toList == (mkV k).toList) = true := by rw [← f1]; exact beq_self_eq_true _
    have b2 : (x.was.toList == (mkV (k + 2 + x.subs.length)).toList) = true := by rw [← f4]; exact beq_self_eq_true _
    have b3 : (x.is.toList == (mkV (k + 4 + x.subs.length)).toList) = true := by rw [← f6]; exact beq_self_eq_true _
    have q3 : (decide (Int.tmod (k + 1 + (x.subs.length : Int)) 3 = 0) == (Int.tmod (k + 1 + (x.subs.length : Int)) 3 == 0)) = true := beq_self_eq_true (decide (Int.tmod (k + 1 + (x.subs.length : Int)) 3 = 0))
    have q5 : (decide (Int.tmod (k + 3 + (x.subs.length : Int)) 3 = 0) == (Int.tmod (k + 3 + (x.subs.length : Int)) 3 == 0)) = true := beq_self_eq_true (decide (Int.tmod (k + 3 + (x.subs.length : Int)) 3 = 0))
    rw [b1, b2, b3, f3, f5, q3, q5] at tree
    have := ih (i + 1) (k + 5 + x.subs.length) hu2 (by omega) hn (fun y hy => hl y (List.mem_cons_of_mem _ hy)) (by omega) (by omega) hd2
    exact .step _ _ _ tree this
theorem jtG : jab Tryz.prog 68 E_hdI := jad mix jsT (lp := jey) (LO := jlB) ⟨Tryz.func68, by kernel_rfl, by kernel_rfl⟩ (by kernel_rfl) fun ivs res bxs h => by
  unfold E_hdI at h
  split at h
  · rename_i p k
    obtain ⟨hc, he⟩ := pick1 h
    cases he
    obtain ⟨hc, k3⟩ := andE hc
    obtain ⟨hc, k2⟩ := andE hc
    obtain ⟨k0, k1⟩ := andE hc
    obtain ⟨t, rfl, h_t⟩ := jar k0
    have e_t : asIms (pIms t) = t := jan t
    obtain rfl := eq_of_beq k1
    refine ⟨jaw 2 (by kernel_rfl) (by kernel_rfl) (by kernel_rfl) ?_, (jqg t).trans ?_⟩
    · intro ls e ls' hl
      replace hl : pickA (jhP ls) = some (e, ls') := hl
      unfold jhP at hl
      split at hl
      · rename_i p k i
        obtain ⟨hc, he⟩ := pick1 hl
        cases he
        obtain ⟨hc, g4⟩ := andE hc
        obtain ⟨hc, g3⟩ := andE hc
        obtain ⟨hc, g2⟩ := andE hc
        obtain ⟨g0, g1⟩ := andE hc
        obtain ⟨t, rfl, h_t⟩ := jar g0
        have e_t : asIms (pIms t) = t := jan t
        obtain rfl := eq_of_beq g1
        obtain rfl := eq_of_beq g2
        rw [e_t] at g3 g4 ⊢
        exact jrr t t 0 1 rfl (by omega) (of_decide_eq_true g3) h_t.2 (by decide) (by decide) (jak g4)
      · cases hl
    · rw [e_t] at k2 k3 ⊢
      rw [k0, k2, k3]
      rfl
  · cases h
theorem jrK : ∀ (l : List ByteArray) (k : Int), ∀ x ∈ mkL k l, x.size ≤ 21
  | [], _, x, hx => by cases hx
  | y :: t, k, x, hx => by
    rcases List.mem_cons.1 hx with rfl | hx
    · exact jeU k
    · exact jrK t (k + 1) x hx
theorem jue {x : ImT} (h : shIm x) (k : Int) : shIm (mkI k x) := by
  have a := jeU k
  have b := jeU (k + 2 + x.subs.length)
  have c := jeU (k + 4 + x.subs.length)
  refine ⟨?_, ⟨?_, fun y hy => ?_⟩, ?_, ?_⟩
  · show (mkV k).size ≤ 1000000
    omega
  · show (mkL (k + 1) x.subs).length ≤ _
    rw [jcv]
    exact h.2.1.1
  · have := jrK x.subs (k + 1) y hy
    omega
  · show (mkV (k + 2 + x.subs.length)).size ≤ 1000000
    omega
  · show (mkV (k + 4 + x.subs.length)).size ≤ 1000000
    omega
theorem joC : ∀ (l : List ImT) (k : Int), (∀ x ∈ l, shIm x) → ∀ x ∈ mkIs k l, shIm x
  | [], _, _, x, hx => by cases hx
  | y :: t, k, h, x, hx => by
    rcases List.mem_cons.1 hx with rfl | hx
    · exact jue (h y (List.mem_cons_self ..)) k
    · exact joC t _ (fun z hz => h z (List.mem_cons_of_mem _ hz)) x hx
theorem jn4 : ∀ (l : List ImT) (k : Int), k ≤ mkE k l
  | [], k => Int.le_refl _
  | x :: t, k => by
    have := jn4 t (k + 5 + x.subs.length)
    show k ≤ mkE (k + 5 + x.subs.length) t
    omega
end
section
open Go.RowKit
def rst (s : ByteArray) (a : Nat) : ByteArray := s.extract a s.size
abbrev srd (s : ByteArray) (a : Int) (b : Bool) : List CV := [.pv (.str s), .pv (.int .i64 a), .pv (.bool b)]
noncomputable def jsp (br : Br) (s : ByteArray) (a : Int) (b : Bool) (n : Int) := evB br Tryz.prog [] [] LO0 Tryz.f43 [.box 0 (srd s a b), cI n]
def posR (s r : ByteArray) : Int := ((s.size - r.size : Nat) : Int)
noncomputable def E_stake : Entry := fun ivs => match ivs with
  | [.box 0 [.pv (.str s), .pv (.int .i64 a), .pv (.bool b)], .cv (.pv (.int .i64 n))] =>
    [(decide (0 ≤ n) && decide (0 ≤ a) && decide (a ≤ s.size) && decide (s.size ≤ 2000000), cS (tkS (rst s a.toNat) n.toNat), [srd s (posR s (tkR (rst s a.toNat) n.toNat)) (tkB (rst s a.toNat) b n.toNat)])]
  | _ => []
noncomputable def keb0 : List (FuncId × Entry) := [(43, E_stake)]
noncomputable def jut (br : Br) (s : ByteArray) (a : Int) (b : Bool) := evB br Tryz.prog keb0 [] LO0 Tryz.f42 [.box 0 (srd s a b)]
noncomputable def E_snum : Entry := fun ivs => match ivs with
  | [.box 0 [.pv (.str s), .pv (.int .i64 a), .pv (.bool b)]] =>
    [(decide (0 ≤ a) && decide (a ≤ s.size) && decide (s.size ≤ 2000000), cI (oneV (rst s a.toNat)), [srd s (posR s (tkR (rst s a.toNat) 1)) (tkB (rst s a.toNat) b 1)])]
  | _ => []
noncomputable def keb1 : List (FuncId × Entry) := (31, E_imgsOk) :: (87, E_byte) :: (88, E_short) :: [(89, E_KeyOf2)]
abbrev oR (slot : Nat) (s : ByteArray) : AV × Option Ob := (.own (4096 * slot), some (.lst 1 (1000000 + 5) s.size (jaj s) true))
abbrev jhO : List (Nat × List Nat × List Nat) := [(5, [0, 3, 4], [0, 3]), (1000000, [14], [])]
noncomputable def je5 (ls : LS) : List (Bool × Ex × LS) := match ls with
  | [(.pv p, none), (.own x, some (.lst 1 e n l true)), (.pv (.int .i64 i), none)] =>
    [(isIms p && imgsB (asIms p) && Nat.beq x 12288 && Nat.beq e (1000000 + 5) && isBy (.sl n l) && holds ((asBy (.sl n l)).size ≤ 10) && (i == 0), .exit 0, [aP (pIms (asIms p)), oR 3 (imsT (asBy (.sl n l)) (asIms p))])]
  | _ => []
noncomputable def jhv : LoopT := fun k ls => bif Nat.beq k 5 then je5 ls else []
noncomputable def jtL (br : Br) (l : List ImT) (s : ByteArray) (i : Int) := rdB br Tryz.prog keb1 jhO jhv Tryz.f32 5 [] [aP (pIms l), oR 3 s, aI i]
noncomputable def jtI (br : Br) (l : List ImT) := evB br Tryz.prog keb1 jhO jhv Tryz.f32 [cP (pIms l)]
noncomputable def rdNS : Nat → ByteArray → Bool → List ImT → Bool × ByteArray × Bool × List ImT
  | 0, r, b, l => (true, r, b, l)
  | n + 1, r, b, l => bif b then (true, r, b, l) else bif holds (isKy (t1S r)) then rdNS n (rd1 r b).r (rd1 r b).b (l ++ [(rd1 r b).im]) else (false, (rd1 r b).r, (rd1 r b).b, l)
noncomputable def keb2 : List (FuncId × Entry) := (43, E_stake) :: (42, E_snum) :: (44, E_SKeyPl) :: [(32, E_putIms)]
abbrev jgh : List (Nat × List Nat × List Nat) := [(5, [0, 4, 5, 6, 7], [0, 2, 3, 4, 6])]
abbrev aSr (slot : Nat) (s : ByteArray) (a : Int) (b : Bool) : AV × Option Ob := aBx slot (srd s a b)
abbrev aFs (slot : Nat) (l : List ImT) : AV × Option Ob := aL slot 6 115 l.length (encIm l)
noncomputable def jhA (ls : LS) : List (Bool × Ex × LS) := match ls with
  | [(.pv (.str s), none), (.ptr x 0, some (.box [.pv (.str s2), .pv (.int .i64 a), .pv (.bool b)])), (.pv (.int .i64 n), none), (.own y, some (.lst 6 e c l false)), (.pv (.int .i64 i), none)] =>
    [(Nat.beq x 16384 && Nat.beq y 24576 && Nat.beq e 115 && Nat.beq c 0 && nilB l && (i == 0) && decide (0 ≤ n) && decide (n ≤ 255) && decide (0 ≤ a) && decide (a ≤ s2.size) && holds (s2.size ≤ 2000000) && (rdNS n.toNat (rst s2 a.toNat) b []).1, .exit 0, [aS s, aX, aX, aSr 4 s2 (posR s2 (rdNS n.toNat (rst s2 a.toNat) b []).2.1) (rdNS n.toNat (rst s2 a.toNat) b []).2.2.1, aFs 6 (rdNS n.toNat (rst s2 a.toNat) b []).2.2.2]),
     (Nat.beq x 16384 && Nat.beq y 24576 && Nat.beq e 115 && Nat.beq c 0 && nilB l && (i == 0) && decide (0 ≤ n) && decide (n ≤ 255) && decide (0 ≤ a) && decide (a ≤ s2.size) && holds (s2.size ≤ 2000000), .ret, [aS s, aP .nils, aB false, aSr 4 s2 (posR s2 (rdNS n.toNat (rst s2 a.toNat) b []).2.1) (rdNS n.toNat (rst s2 a.toNat) b []).2.2.1, aFs 6 (rdNS n.toNat (rst s2 a.toNat) b []).2.2.2])]
  | _ => []
noncomputable def jfq : LoopT := fun k ls => bif Nat.beq k 5 then jhA ls else []
noncomputable def r_sgi (br : Br) (s s2 : ByteArray) (a : Int) (b : Bool) (n : Int) (l : List ImT) (i : Int) := rdB br Tryz.prog keb2 jgh jfq Tryz.f61 5 [] [aS s, aSr 4 s2 a b, aI n, aFs 6 l, aI i]
noncomputable def q_sgi (br : Br) (s : ByteArray) := evB br Tryz.prog keb2 jgh jfq Tryz.f61 [cS s]
noncomputable def E_sgi : Entry := fun ivs => match ivs with
  | [.cv (.pv (.str s))] =>
    [(decide (s.size ≤ 2000000) && holds (jbz s), .tup [cP (pIms (decI s)), cB true], []),
     (decide (s.size ≤ 2000000), .tup [cP (.sl 0 []), cB false], [])]
  | _ => []
end
end Go.Proofs.YtobhacnimkccmaaGreatDoor
