import Derived.Test.YtobhacnimkccmaaGreatDoorYYj
import Derived.Test.YtobhacnimkccmaaGreatDoorYYe
import Derived.Test.YtobhacnimkccmaaGreatDoorYYg
import Derived.ChangeSlices
import Derived.WideShapes
import Derived.OpenShut
namespace Go.Proofs.YtobhacnimkccmaaGreatDoor
set_option linter.unusedVariables false
set_option maxRecDepth 100000
set_option linter.unusedSimpArgs false
section
theorem jmV (s : ByteArray) (a : Int) (b : Bool) (n : Int) : jsp brC s a b n =
 brC (decide (n > IntKind.wrap .i64 ((↑(ByteArray.size s) : Int) - a)))
 (some ((.cv (.pv (.str { data := #[] })), [[.pv (.str s), .pv (.int .i64 a), .pv (.bool true)]])))
 (brC (decide (0 ≤ IntKind.wrap .i64 (IntKind.wrap .i64 (a + n) - n)) && decide (IntKind.wrap .i64 (IntKind.wrap .i64 (a + n) - n) ≤ IntKind.wrap .i64 (a + n)) && decide (IntKind.wrap .i64 (a + n) ≤ (↑(ByteArray.size s) : Int)) && true && true)
 (some ((.cv (.pv (.str (ByteArray.extract s (Int.toNat (IntKind.wrap .i64 (IntKind.wrap .i64 (a + n) - n))) (Int.toNat (IntKind.wrap .i64 (a + n)))))), [[.pv (.str s), .pv (.int .i64 (IntKind.wrap .i64 (a + n))), .pv (.bool b)]])))
 none) := by kernel_rfl
theorem jnC (s : ByteArray) (a : Int) (b : Bool) : jut brC s a b =
 brC (decide (0 ≤ 1) && decide (0 ≤ a) && decide (a ≤ (↑(ByteArray.size s) : Int)) && decide (ByteArray.size s ≤ 2000000))
 (brC (ByteArray.toList (tkS (rst s (Int.toNat a)) 1) == [])
 (some ((.cv (.pv (.int .i64 (Int.ofNat 0))), [[.pv (.str s), .pv (.int .i64 (posR s (tkR (rst s (Int.toNat a)) 1))), .pv (.bool (tkB (rst s (Int.toNat a)) b 1))]])))
 (brC (decide (0 ≤ 0) && decide (0 < (↑(ByteArray.size (tkS (rst s (Int.toNat a)) 1)) : Int)) && true)
 (some ((.cv (.pv (.int .i64 (IntKind.wrap .i64 (↑(UInt8.toNat (List.getD (Array.toList (ByteArray.data (tkS (rst s (Int.toNat a)) 1))) 0 0)) : Int)))), [[.pv (.str s), .pv (.int .i64 (posR s (tkR (rst s (Int.toNat a)) 1))), .pv (.bool (tkB (rst s (Int.toNat a)) b 1))]])))
 none))
 none := by kernel_rfl
noncomputable def zzal0 (s : ByteArray) (s2 : ByteArray) (a : Int) (b : Bool) (n : Int) (l : List ImT) (i : Int) := (rst s2 (Int.toNat (posR s2 (tkR (rst s2 (Int.toNat (posR s2 (tkR (rst s2 (Int.toNat a)) 1)))) (Int.toNat (oneV (rst s2 (Int.toNat a))))))))
noncomputable def zzal1 (s : ByteArray) (s2 : ByteArray) (a : Int) (b : Bool) (n : Int) (l : List ImT) (i : Int) := (tkR (rst s2 (Int.toNat (posR s2 (tkR (rst s2 (Int.toNat (posR s2 (tkR (zzal0 s s2 a b n l i) 1)))) 1)))) (Int.toNat (oneV (rst s2 (Int.toNat (posR s2 (tkR (zzal0 s s2 a b n l i) 1)))))))
noncomputable def zzal2 (s : ByteArray) (s2 : ByteArray) (a : Int) (b : Bool) (n : Int) (l : List ImT) (i : Int) := (tkS (rst s2 (Int.toNat (posR s2 (tkR (rst s2 (Int.toNat a)) 1)))) (Int.toNat (oneV (rst s2 (Int.toNat a)))))
noncomputable def zzal3 (s : ByteArray) (s2 : ByteArray) (a : Int) (b : Bool) (n : Int) (l : List ImT) (i : Int) := (tkB (rst s2 (Int.toNat (posR s2 (tkR (rst s2 (Int.toNat (posR s2 (tkR (zzal0 s s2 a b n l i) 1)))) 1)))) (tkB (rst s2 (Int.toNat (posR s2 (tkR (zzal0 s s2 a b n l i) 1)))) (tkB (zzal0 s s2 a b n l i) (tkB (rst s2 (Int.toNat (posR s2 (tkR (rst s2 (Int.toNat a)) 1)))) (tkB (rst s2 (Int.toNat a)) b 1) (Int.toNat (oneV (rst s2 (Int.toNat a))))) 1) 1) (Int.toNat (oneV (rst s2 (Int.toNat (posR s2 (tkR (zzal0 s s2 a b n l i) 1)))))))
noncomputable def zzal4 (s : ByteArray) (s2 : ByteArray) (a : Int) (b : Bool) (n : Int) (l : List ImT) (i : Int) := (decide (0 ≤ oneV (rst s2 (Int.toNat (posR s2 (tkR (zzal0 s s2 a b n l i) 1))))) && decide (0 ≤ posR s2 (tkR (rst s2 (Int.toNat (posR s2 (tkR (zzal0 s s2 a b n l i) 1)))) 1)) && decide (posR s2 (tkR (rst s2 (Int.toNat (posR s2 (tkR (zzal0 s s2 a b n l i) 1)))) 1) ≤ (↑(ByteArray.size s2) : Int)) && decide (ByteArray.size s2 ≤ 2000000))
noncomputable def zzal5 (s : ByteArray) (s2 : ByteArray) (a : Int) (b : Bool) (n : Int) (l : List ImT) (i : Int) := (tkS (rst s2 (Int.toNat (posR s2 (tkR (rst s2 (Int.toNat (posR s2 (tkR (zzal0 s s2 a b n l i) 1)))) 1)))) (Int.toNat (oneV (rst s2 (Int.toNat (posR s2 (tkR (zzal0 s s2 a b n l i) 1)))))))
noncomputable def zzal6 (s : ByteArray) (s2 : ByteArray) (a : Int) (b : Bool) (n : Int) (l : List ImT) (i : Int) := (rst s2 (Int.toNat (posR s2 (zzal1 s s2 a b n l i))))
noncomputable def zzal7 (s : ByteArray) (s2 : ByteArray) (a : Int) (b : Bool) (n : Int) (l : List ImT) (i : Int) := (decide (bits BinOp.and .i64 (oneV (zzal0 s s2 a b n l i)) 2 > 0))
theorem jh4 (s : ByteArray) (s2 : ByteArray) (a : Int) (b : Bool) (n : Int) (l : List ImT) (i : Int) : r_sgi brC s s2 a b n l i =
 brC (decide (i < n))
 (brC (!b)
 (brC (decide (0 ≤ a) && decide (a ≤ (↑(ByteArray.size s2) : Int)) && decide (ByteArray.size s2 ≤ 2000000))
 (brC (decide (0 ≤ oneV (rst s2 (Int.toNat a))) && decide (0 ≤ posR s2 (tkR (rst s2 (Int.toNat a)) 1)) && decide (posR s2 (tkR (rst s2 (Int.toNat a)) 1) ≤ (↑(ByteArray.size s2) : Int)) && decide (ByteArray.size s2 ≤ 2000000))
 (brC (decide (ByteArray.size (zzal2 s s2 a b n l i) ≤ 2000) && holds (isKy (zzal2 s s2 a b n l i)))
 (brC (decide (0 ≤ posR s2 (tkR (rst s2 (Int.toNat (posR s2 (tkR (rst s2 (Int.toNat a)) 1)))) (Int.toNat (oneV (rst s2 (Int.toNat a)))))) && decide (posR s2 (tkR (rst s2 (Int.toNat (posR s2 (tkR (rst s2 (Int.toNat a)) 1)))) (Int.toNat (oneV (rst s2 (Int.toNat a))))) ≤ (↑(ByteArray.size s2) : Int)) && decide (ByteArray.size s2 ≤ 2000000))
 (brC (decide (bits BinOp.and .i64 (oneV (zzal0 s s2 a b n l i)) 1 > 0))
 (brC (decide (0 ≤ posR s2 (tkR (zzal0 s s2 a b n l i) 1)) && decide (posR s2 (tkR (zzal0 s s2 a b n l i) 1) ≤ (↑(ByteArray.size s2) : Int)) && decide (ByteArray.size s2 ≤ 2000000))
 (brC (zzal4 s s2 a b n l i)
 (brC (zzal7 s s2 a b n l i)
 (brC (decide (0 ≤ posR s2 (zzal1 s s2 a b n l i)) && decide (posR s2 (zzal1 s s2 a b n l i) ≤ (↑(ByteArray.size s2) : Int)) && decide (ByteArray.size s2 ≤ 2000000))
 (brC (decide (0 ≤ oneV (zzal6 s s2 a b n l i)) && decide (0 ≤ posR s2 (tkR (zzal6 s s2 a b n l i) 1)) && decide (posR s2 (tkR (zzal6 s s2 a b n l i) 1) ≤ (↑(ByteArray.size s2) : Int)) && decide (ByteArray.size s2 ≤ 2000000))
 (brC (Nat.beq (List.length [PV.str (Prod.fst (deKy (zzal2 s s2 a b n l i))), PV.sl (List.length (Prod.snd (deKy (zzal2 s s2 a b n l i)))) (List.map PV.str (Prod.snd (deKy (zzal2 s s2 a b n l i)))), PV.bool (decide (bits BinOp.and .i64 (oneV (zzal0 s s2 a b n l i)) 1 > 0)), PV.str (zzal5 s s2 a b n l i), PV.bool (zzal7 s s2 a b n l i), PV.str (tkS (rst s2 (Int.toNat (posR s2 (tkR (zzal6 s s2 a b n l i) 1)))) (Int.toNat (oneV (zzal6 s s2 a b n l i))))]) (1 * 6) && (decide (List.length l + 1 ≤ 140737488351232) && decide ((List.length l + 1) * 88 ≤ 140737488355328)))
 (some (.inl [(.pv (.str s), none), (.ptr 16384 0, some (.box [.pv (.str s2), .pv (.int .i64 (posR s2 (tkR (rst s2 (Int.toNat (posR s2 (tkR (zzal6 s s2 a b n l i) 1)))) (Int.toNat (oneV (zzal6 s s2 a b n l i)))))), .pv (.bool (tkB (rst s2 (Int.toNat (posR s2 (tkR (zzal6 s s2 a b n l i) 1)))) (tkB (zzal6 s s2 a b n l i) (zzal3 s s2 a b n l i) 1) (Int.toNat (oneV (zzal6 s s2 a b n l i)))))])), (.pv (.int .i64 n), none), (.own 24576, some (.lst 6 115 (List.length l + 1) (encIm l ++ [PV.str (Prod.fst (deKy (zzal2 s s2 a b n l i))), PV.sl (List.length (Prod.snd (deKy (zzal2 s s2 a b n l i)))) (List.map PV.str (Prod.snd (deKy (zzal2 s s2 a b n l i)))), PV.bool (decide (bits BinOp.and .i64 (oneV (zzal0 s s2 a b n l i)) 1 > 0)), PV.str (zzal5 s s2 a b n l i), PV.bool (zzal7 s s2 a b n l i), PV.str (tkS (rst s2 (Int.toNat (posR s2 (tkR (zzal6 s s2 a b n l i) 1)))) (Int.toNat (oneV (zzal6 s s2 a b n l i))))]) false)), (.pv (.int .i64 (IntKind.wrap .i64 (i + 1))), none)]))
 none)
 none)
 none)
 (brC (Nat.beq (List.length [PV.str (Prod.fst (deKy (zzal2 s s2 a b n l i))), PV.sl (List.length (Prod.snd (deKy (zzal2 s s2 a b n l i)))) (List.map PV.str (Prod.snd (deKy (zzal2 s s2 a b n l i)))), PV.bool (decide (bits BinOp.and .i64 (oneV (zzal0 s s2 a b n l i)) 1 > 0)), PV.str (zzal5 s s2 a b n l i), PV.bool (zzal7 s s2 a b n l i), PV.str { data := #[] }]) (1 * 6) && (decide (List.length l + 1 ≤ 140737488351232) && decide ((List.length l + 1) * 88 ≤ 140737488355328)))
 (some (.inl [(.pv (.str s), none), (.ptr 16384 0, some (.box [.pv (.str s2), .pv (.int .i64 (posR s2 (zzal1 s s2 a b n l i))), .pv (.bool (zzal3 s s2 a b n l i))])), (.pv (.int .i64 n), none), (.own 24576, some (.lst 6 115 (List.length l + 1) (encIm l ++ [PV.str (Prod.fst (deKy (zzal2 s s2 a b n l i))), PV.sl (List.length (Prod.snd (deKy (zzal2 s s2 a b n l i)))) (List.map PV.str (Prod.snd (deKy (zzal2 s s2 a b n l i)))), PV.bool (decide (bits BinOp.and .i64 (oneV (zzal0 s s2 a b n l i)) 1 > 0)), PV.str (zzal5 s s2 a b n l i), PV.bool (zzal7 s s2 a b n l i), PV.str { data := #[] }]) false)), (.pv (.int .i64 (IntKind.wrap .i64 (i + 1))), none)]))
 none))
 none)
 none)
 (brC (zzal7 s s2 a b n l i)
 (brC (decide (0 ≤ posR s2 (tkR (zzal0 s s2 a b n l i) 1)) && decide (posR s2 (tkR (zzal0 s s2 a b n l i) 1) ≤ (↑(ByteArray.size s2) : Int)) && decide (ByteArray.size s2 ≤ 2000000))
 (brC (zzal4 s s2 a b n l i)
 (brC (Nat.beq (List.length [PV.str (Prod.fst (deKy (zzal2 s s2 a b n l i))), PV.sl (List.length (Prod.snd (deKy (zzal2 s s2 a b n l i)))) (List.map PV.str (Prod.snd (deKy (zzal2 s s2 a b n l i)))), PV.bool (decide (bits BinOp.and .i64 (oneV (zzal0 s s2 a b n l i)) 1 > 0)), PV.str { data := #[] }, PV.bool (zzal7 s s2 a b n l i), PV.str (zzal5 s s2 a b n l i)]) (1 * 6) && (decide (List.length l + 1 ≤ 140737488351232) && decide ((List.length l + 1) * 88 ≤ 140737488355328)))
 (some (.inl [(.pv (.str s), none), (.ptr 16384 0, some (.box [.pv (.str s2), .pv (.int .i64 (posR s2 (zzal1 s s2 a b n l i))), .pv (.bool (zzal3 s s2 a b n l i))])), (.pv (.int .i64 n), none), (.own 24576, some (.lst 6 115 (List.length l + 1) (encIm l ++ [PV.str (Prod.fst (deKy (zzal2 s s2 a b n l i))), PV.sl (List.length (Prod.snd (deKy (zzal2 s s2 a b n l i)))) (List.map PV.str (Prod.snd (deKy (zzal2 s s2 a b n l i)))), PV.bool (decide (bits BinOp.and .i64 (oneV (zzal0 s s2 a b n l i)) 1 > 0)), PV.str { data := #[] }, PV.bool (zzal7 s s2 a b n l i), PV.str (zzal5 s s2 a b n l i)]) false)), (.pv (.int .i64 (IntKind.wrap .i64 (i + 1))), none)]))
 none)
 none)
 none)
 (brC (Nat.beq (List.length [PV.str (Prod.fst (deKy (zzal2 s s2 a b n l i))), PV.sl (List.length (Prod.snd (deKy (zzal2 s s2 a b n l i)))) (List.map PV.str (Prod.snd (deKy (zzal2 s s2 a b n l i)))), PV.bool (decide (bits BinOp.and .i64 (oneV (zzal0 s s2 a b n l i)) 1 > 0)), PV.str { data := #[] }, PV.bool (zzal7 s s2 a b n l i), PV.str { data := #[] }]) (1 * 6) && (decide (List.length l + 1 ≤ 140737488351232) && decide ((List.length l + 1) * 88 ≤ 140737488355328)))
 (some (.inl [(.pv (.str s), none), (.ptr 16384 0, some (.box [.pv (.str s2), .pv (.int .i64 (posR s2 (tkR (zzal0 s s2 a b n l i) 1))), .pv (.bool (tkB (zzal0 s s2 a b n l i) (tkB (rst s2 (Int.toNat (posR s2 (tkR (rst s2 (Int.toNat a)) 1)))) (tkB (rst s2 (Int.toNat a)) b 1) (Int.toNat (oneV (rst s2 (Int.toNat a))))) 1))])), (.pv (.int .i64 n), none), (.own 24576, some (.lst 6 115 (List.length l + 1) (encIm l ++ [PV.str (Prod.fst (deKy (zzal2 s s2 a b n l i))), PV.sl (List.length (Prod.snd (deKy (zzal2 s s2 a b n l i)))) (List.map PV.str (Prod.snd (deKy (zzal2 s s2 a b n l i)))), PV.bool (decide (bits BinOp.and .i64 (oneV (zzal0 s s2 a b n l i)) 1 > 0)), PV.str { data := #[] }, PV.bool (zzal7 s s2 a b n l i), PV.str { data := #[] }]) false)), (.pv (.int .i64 (IntKind.wrap .i64 (i + 1))), none)]))
 none)))
 none)
 (brC (decide (ByteArray.size (zzal2 s s2 a b n l i) ≤ 2000))
 (brC (decide (0 ≤ posR s2 (tkR (rst s2 (Int.toNat (posR s2 (tkR (rst s2 (Int.toNat a)) 1)))) (Int.toNat (oneV (rst s2 (Int.toNat a)))))) && decide (posR s2 (tkR (rst s2 (Int.toNat (posR s2 (tkR (rst s2 (Int.toNat a)) 1)))) (Int.toNat (oneV (rst s2 (Int.toNat a))))) ≤ (↑(ByteArray.size s2) : Int)) && decide (ByteArray.size s2 ≤ 2000000))
 (brC (decide (bits BinOp.and .i64 (oneV (zzal0 s s2 a b n l i)) 1 > 0))
 (brC (decide (0 ≤ posR s2 (tkR (zzal0 s s2 a b n l i) 1)) && decide (posR s2 (tkR (zzal0 s s2 a b n l i) 1) ≤ (↑(ByteArray.size s2) : Int)) && decide (ByteArray.size s2 ≤ 2000000))
 (brC (zzal4 s s2 a b n l i)
 (brC (zzal7 s s2 a b n l i)
 (brC (decide (0 ≤ posR s2 (zzal1 s s2 a b n l i)) && decide (posR s2 (zzal1 s s2 a b n l i) ≤ (↑(ByteArray.size s2) : Int)) && decide (ByteArray.size s2 ≤ 2000000))
 (brC (decide (0 ≤ oneV (zzal6 s s2 a b n l i)) && decide (0 ≤ posR s2 (tkR (zzal6 s s2 a b n l i) 1)) && decide (posR s2 (tkR (zzal6 s s2 a b n l i) 1) ≤ (↑(ByteArray.size s2) : Int)) && decide (ByteArray.size s2 ≤ 2000000))
 (some (.inr (.ret, [(.pv (.str s), none), (.pv PV.nils, none), (.pv (.bool false), none), (.ptr 16384 0, some (.box [.pv (.str s2), .pv (.int .i64 (posR s2 (tkR (rst s2 (Int.toNat (posR s2 (tkR (zzal6 s s2 a b n l i) 1)))) (Int.toNat (oneV (zzal6 s s2 a b n l i)))))), .pv (.bool (tkB (rst s2 (Int.toNat (posR s2 (tkR (zzal6 s s2 a b n l i) 1)))) (tkB (zzal6 s s2 a b n l i) (zzal3 s s2 a b n l i) 1) (Int.toNat (oneV (zzal6 s s2 a b n l i)))))])), (.own 24576, some (.lst 6 115 (List.length l) (encIm l) false))])))
 none)
 none)
 (some (.inr (.ret, [(.pv (.str s), none), (.pv PV.nils, none), (.pv (.bool false), none), (.ptr 16384 0, some (.box [.pv (.str s2), .pv (.int .i64 (posR s2 (zzal1 s s2 a b n l i))), .pv (.bool (zzal3 s s2 a b n l i))])), (.own 24576, some (.lst 6 115 (List.length l) (encIm l) false))]))))
 none)
 none)
 (brC (zzal7 s s2 a b n l i)
 (brC (decide (0 ≤ posR s2 (tkR (zzal0 s s2 a b n l i) 1)) && decide (posR s2 (tkR (zzal0 s s2 a b n l i) 1) ≤ (↑(ByteArray.size s2) : Int)) && decide (ByteArray.size s2 ≤ 2000000))
 (brC (zzal4 s s2 a b n l i)
 (some (.inr (.ret, [(.pv (.str s), none), (.pv PV.nils, none), (.pv (.bool false), none), (.ptr 16384 0, some (.box [.pv (.str s2), .pv (.int .i64 (posR s2 (zzal1 s s2 a b n l i))), .pv (.bool (zzal3 s s2 a b n l i))])), (.own 24576, some (.lst 6 115 (List.length l) (encIm l) false))])))
 none)
 none)
 (some (.inr (.ret, [(.pv (.str s), none), (.pv PV.nils, none), (.pv (.bool false), none), (.ptr 16384 0, some (.box [.pv (.str s2), .pv (.int .i64 (posR s2 (tkR (zzal0 s s2 a b n l i) 1))), .pv (.bool (tkB (zzal0 s s2 a b n l i) (tkB (rst s2 (Int.toNat (posR s2 (tkR (rst s2 (Int.toNat a)) 1)))) (tkB (rst s2 (Int.toNat a)) b 1) (Int.toNat (oneV (rst s2 (Int.toNat a))))) 1))])), (.own 24576, some (.lst 6 115 (List.length l) (encIm l) false))])))))
 none)
 none))
 none)
 none)
 (some (.inr (.exit 0, [(.pv (.str s), none), (.bad, none), (.bad, none), (.ptr 16384 0, some (.box [.pv (.str s2), .pv (.int .i64 a), .pv (.bool b)])), (.own 24576, some (.lst 6 115 (List.length l) (encIm l) false))]))))
 (some (.inr (.exit 0, [(.pv (.str s), none), (.bad, none), (.bad, none), (.ptr 16384 0, some (.box [.pv (.str s2), .pv (.int .i64 a), .pv (.bool b)])), (.own 24576, some (.lst 6 115 (List.length l) (encIm l) false))]))) := by kernel_rfl
noncomputable def zzam0 (l : List ImT) (s : ByteArray) (i : Int) := (keyV2 (PV.asStr (List.headD (List.drop (Int.toNat i * 6) (encIm l)) PV.nilp)) (asL (PV.sl (PV.slN (List.headD (List.tail (List.drop (Int.toNat i * 6) (encIm l))) PV.nilp)) (PV.slL (List.headD (List.tail (List.drop (Int.toNat i * 6) (encIm l))) PV.nilp)))))
noncomputable def zzam1 (l : List ImT) (s : ByteArray) (i : Int) := (List.tail (List.tail (List.tail (List.drop (Int.toNat i * 6) (encIm l)))))
noncomputable def zzam2 (l : List ImT) (s : ByteArray) (i : Int) := (jah (zzam0 l s i) ++ litV (IntKind.wrap .i64 (1 + 2)) 1 ++ (jah (PV.asStr (List.headD (zzam1 l s i) PV.nilp)) ++ jah (PV.asStr (List.headD (List.tail (List.tail (zzam1 l s i))) PV.nilp))))
noncomputable def zzam3 (l : List ImT) (s : ByteArray) (i : Int) := (decide (ByteArray.size (PV.asStr (List.headD (List.drop (Int.toNat i * 6) (encIm l)) PV.nilp)) ≤ 1000000) && isL (PV.sl (PV.slN (List.headD (List.tail (List.drop (Int.toNat i * 6) (encIm l))) PV.nilp)) (PV.slL (List.headD (List.tail (List.drop (Int.toNat i * 6) (encIm l))) PV.nilp))))
noncomputable def zzam4 (l : List ImT) (s : ByteArray) (i : Int) := (jah (zzam0 l s i) ++ litV (IntKind.wrap .i64 (0 + 2)) 1 ++ ({ data := #[] } ++ jah (PV.asStr (List.headD (List.tail (List.tail (zzam1 l s i))) PV.nilp))))
theorem jip (l : List ImT) (s : ByteArray) (i : Int) : jtL brC l s i =
 brC (decide (i < (↑(List.length l) : Int)))
 (brC (decide (0 ≤ i) && decide (i < (↑(List.length l) : Int)))
 (brC (Nat.ble 6 (List.length (List.drop (Int.toNat i * 6) (encIm l))) && (PV.isStr (List.headD (List.drop (Int.toNat i * 6) (encIm l)) PV.nilp) && (PV.isSl (List.headD (List.tail (List.drop (Int.toNat i * 6) (encIm l))) PV.nilp) && (PV.isBool (List.headD (List.tail (List.tail (List.drop (Int.toNat i * 6) (encIm l)))) PV.nilp) && (PV.isStr (List.headD (zzam1 l s i) PV.nilp) && (PV.isBool (List.headD (List.tail (zzam1 l s i)) PV.nilp) && (PV.isStr (List.headD (List.tail (List.tail (zzam1 l s i))) PV.nilp) && true && true) && true) && true) && true) && true) && true) && true)
 (brC (PV.asBool (List.headD (List.tail (List.tail (List.drop (Int.toNat i * 6) (encIm l)))) PV.nilp))
 (brC (decide (ByteArray.size (PV.asStr (List.headD (zzam1 l s i) PV.nilp)) ≤ 1000000))
 (brC (PV.asBool (List.headD (List.tail (zzam1 l s i)) PV.nilp))
 (brC (decide (ByteArray.size (PV.asStr (List.headD (List.tail (List.tail (zzam1 l s i))) PV.nilp)) ≤ 1000000))
 (brC (decide (ByteArray.size (jah (PV.asStr (List.headD (zzam1 l s i) PV.nilp))) + ByteArray.size (jah (PV.asStr (List.headD (List.tail (List.tail (zzam1 l s i))) PV.nilp))) ≤ 9223372036854775807) && true)
 (brC (zzam3 l s i)
 (brC (decide (ByteArray.size (zzam0 l s i) ≤ 1000000))
 (brC (decide (ByteArray.size (jah (zzam0 l s i)) + ByteArray.size (litV (IntKind.wrap .i64 (1 + 2)) 1) ≤ 9223372036854775807) && true)
 (brC (decide (ByteArray.size (jah (zzam0 l s i) ++ litV (IntKind.wrap .i64 (1 + 2)) 1) + ByteArray.size (jah (PV.asStr (List.headD (zzam1 l s i) PV.nilp)) ++ jah (PV.asStr (List.headD (List.tail (List.tail (zzam1 l s i))) PV.nilp))) ≤ 9223372036854775807) && true)
 (brC (Nat.beq (List.length (jaj (zzam2 l s i))) (ByteArray.size (zzam2 l s i) * 1) && (decide (ByteArray.size s + ByteArray.size (zzam2 l s i) ≤ 140737488351232) && decide ((ByteArray.size s + ByteArray.size (zzam2 l s i)) * 1 ≤ 140737488355328)))
 (some (.inl [(.pv (.sl (List.length l) (encIm l)), none), (.own 12288, some (.lst 1 1000005 (ByteArray.size s + ByteArray.size (zzam2 l s i)) (jaj s ++ jaj (zzam2 l s i)) true)), (.pv (.int .i64 (IntKind.wrap .i64 (i + 1))), none)]))
 none)
 none)
 none)
 none)
 none)
 none)
 none)
 (brC (zzam3 l s i)
 (brC (decide (ByteArray.size (zzam0 l s i) ≤ 1000000))
 (brC (decide (ByteArray.size (jah (zzam0 l s i)) + ByteArray.size (litV 1 1) ≤ 9223372036854775807) && true)
 (brC (decide (ByteArray.size (jah (zzam0 l s i) ++ litV 1 1) + ByteArray.size (jah (PV.asStr (List.headD (zzam1 l s i) PV.nilp))) ≤ 9223372036854775807) && true)
 (brC (Nat.beq (List.length (jaj (jah (zzam0 l s i) ++ litV 1 1 ++ jah (PV.asStr (List.headD (zzam1 l s i) PV.nilp))))) (ByteArray.size (jah (zzam0 l s i) ++ litV 1 1 ++ jah (PV.asStr (List.headD (zzam1 l s i) PV.nilp))) * 1) && (decide (ByteArray.size s + ByteArray.size (jah (zzam0 l s i) ++ litV 1 1 ++ jah (PV.asStr (List.headD (zzam1 l s i) PV.nilp))) ≤ 140737488351232) && decide ((ByteArray.size s + ByteArray.size (jah (zzam0 l s i) ++ litV 1 1 ++ jah (PV.asStr (List.headD (zzam1 l s i) PV.nilp)))) * 1 ≤ 140737488355328)))
 (some (.inl [(.pv (.sl (List.length l) (encIm l)), none), (.own 12288, some (.lst 1 1000005 (ByteArray.size s + ByteArray.size (jah (zzam0 l s i) ++ litV 1 1 ++ jah (PV.asStr (List.headD (zzam1 l s i) PV.nilp)))) (jaj s ++ jaj (jah (zzam0 l s i) ++ litV 1 1 ++ jah (PV.asStr (List.headD (zzam1 l s i) PV.nilp)))) true)), (.pv (.int .i64 (IntKind.wrap .i64 (i + 1))), none)]))
 none)
 none)
 none)
 none)
 none))
 none)
 (brC (PV.asBool (List.headD (List.tail (zzam1 l s i)) PV.nilp))
 (brC (decide (ByteArray.size (PV.asStr (List.headD (List.tail (List.tail (zzam1 l s i))) PV.nilp)) ≤ 1000000))
 (brC (decide (0 + ByteArray.size (jah (PV.asStr (List.headD (List.tail (List.tail (zzam1 l s i))) PV.nilp))) ≤ 9223372036854775807) && true)
 (brC (zzam3 l s i)
 (brC (decide (ByteArray.size (zzam0 l s i) ≤ 1000000))
 (brC (decide (ByteArray.size (jah (zzam0 l s i)) + ByteArray.size (litV (IntKind.wrap .i64 (0 + 2)) 1) ≤ 9223372036854775807) && true)
 (brC (decide (ByteArray.size (jah (zzam0 l s i) ++ litV (IntKind.wrap .i64 (0 + 2)) 1) + ByteArray.size ({ data := #[] } ++ jah (PV.asStr (List.headD (List.tail (List.tail (zzam1 l s i))) PV.nilp))) ≤ 9223372036854775807) && true)
 (brC (Nat.beq (List.length (jaj (zzam4 l s i))) (ByteArray.size (zzam4 l s i) * 1) && (decide (ByteArray.size s + ByteArray.size (zzam4 l s i) ≤ 140737488351232) && decide ((ByteArray.size s + ByteArray.size (zzam4 l s i)) * 1 ≤ 140737488355328)))
 (some (.inl [(.pv (.sl (List.length l) (encIm l)), none), (.own 12288, some (.lst 1 1000005 (ByteArray.size s + ByteArray.size (zzam4 l s i)) (jaj s ++ jaj (zzam4 l s i)) true)), (.pv (.int .i64 (IntKind.wrap .i64 (i + 1))), none)]))
 none)
 none)
 none)
 none)
 none)
 none)
 none)
 (brC (zzam3 l s i)
 (brC (decide (ByteArray.size (zzam0 l s i) ≤ 1000000))
 (brC (decide (ByteArray.size (jah (zzam0 l s i)) + ByteArray.size (litV 0 1) ≤ 9223372036854775807) && true)
 (brC (decide (ByteArray.size (jah (zzam0 l s i) ++ litV 0 1) + 0 ≤ 9223372036854775807) && true)
 (brC (Nat.beq (List.length (jaj (jah (zzam0 l s i) ++ litV 0 1 ++ { data := #[] }))) (ByteArray.size (jah (zzam0 l s i) ++ litV 0 1 ++ { data := #[] }) * 1) && (decide (ByteArray.size s + ByteArray.size (jah (zzam0 l s i) ++ litV 0 1 ++ { data := #[] }) ≤ 140737488351232) && decide ((ByteArray.size s + ByteArray.size (jah (zzam0 l s i) ++ litV 0 1 ++ { data := #[] })) * 1 ≤ 140737488355328)))
 (some (.inl [(.pv (.sl (List.length l) (encIm l)), none), (.own 12288, some (.lst 1 1000005 (ByteArray.size s + ByteArray.size (jah (zzam0 l s i) ++ litV 0 1 ++ { data := #[] })) (jaj s ++ jaj (jah (zzam0 l s i) ++ litV 0 1 ++ { data := #[] })) true)), (.pv (.int .i64 (IntKind.wrap .i64 (i + 1))), none)]))
 none)
 none)
 none)
 none)
 none)))
 none)
 none)
 (some (.inr (.exit 0, [(.pv (.sl (List.length l) (encIm l)), none), (.own 12288, some (.lst 1 1000005 (ByteArray.size s) (jaj s) true))]))) := by kernel_rfl
theorem jre (s : ByteArray) : q_sgi brC s =
 brC (decide (0 ≤ 0) && decide (0 ≤ (↑(ByteArray.size s) : Int)) && decide (ByteArray.size s ≤ 2000000))
 (brC (Nat.beq 16384 16384 && Nat.beq 24576 24576 && Nat.beq 115 115 && Nat.beq 0 0 && nilB [] && 0 == 0 && decide (0 ≤ oneV (rst s 0)) && decide (oneV (rst s 0) ≤ 255) && decide (0 ≤ posR s (tkR (rst s 0) 1)) && decide (posR s (tkR (rst s 0) 1) ≤ (↑(ByteArray.size s) : Int)) && holds (ByteArray.size s ≤ 2000000) && Prod.fst (rdNS (Int.toNat (oneV (rst s 0))) (rst s (Int.toNat (posR s (tkR (rst s 0) 1)))) (tkB (rst s 0) false 1) []))
 (brC (Prod.fst (Prod.snd (Prod.snd (rdNS (Int.toNat (oneV (rst s 0))) (rst s (Int.toNat (posR s (tkR (rst s 0) 1)))) (tkB (rst s 0) false 1) []))))
 (some ((.tup [.cv (.pv PV.nils), .cv (.pv (.bool false))], [])))
 (brC (isIms (PV.sl (List.length (Prod.snd (Prod.snd (Prod.snd (rdNS (Int.toNat (oneV (rst s 0))) (rst s (Int.toNat (posR s (tkR (rst s 0) 1)))) (tkB (rst s 0) false 1) []))))) (encIm (Prod.snd (Prod.snd (Prod.snd (rdNS (Int.toNat (oneV (rst s 0))) (rst s (Int.toNat (posR s (tkR (rst s 0) 1)))) (tkB (rst s 0) false 1) [])))))))
 (brC (!ByteArray.toList (putI (asIms (PV.sl (List.length (Prod.snd (Prod.snd (Prod.snd (rdNS (Int.toNat (oneV (rst s 0))) (rst s (Int.toNat (posR s (tkR (rst s 0) 1)))) (tkB (rst s 0) false 1) []))))) (encIm (Prod.snd (Prod.snd (Prod.snd (rdNS (Int.toNat (oneV (rst s 0))) (rst s (Int.toNat (posR s (tkR (rst s 0) 1)))) (tkB (rst s 0) false 1) [])))))))) == ByteArray.toList s)
 (some ((.tup [.cv (.pv PV.nils), .cv (.pv (.bool false))], [])))
 (brC (ByteArray.toList s == [])
 (some ((.tup [.cv (.pv PV.nils), .cv (.pv (.bool false))], [])))
 (some ((.tup [.cv (.lst 6 115 (List.length (Prod.snd (Prod.snd (Prod.snd (rdNS (Int.toNat (oneV (rst s 0))) (rst s (Int.toNat (posR s (tkR (rst s 0) 1)))) (tkB (rst s 0) false 1) []))))) (encIm (Prod.snd (Prod.snd (Prod.snd (rdNS (Int.toNat (oneV (rst s 0))) (rst s (Int.toNat (posR s (tkR (rst s 0) 1)))) (tkB (rst s 0) false 1) []))))) false), .cv (.pv (.bool true))], [])))))
 none))
 (brC (Nat.beq 16384 16384 && Nat.beq 24576 24576 && Nat.beq 115 115 && Nat.beq 0 0 && nilB [] && 0 == 0 && decide (0 ≤ oneV (rst s 0)) && decide (oneV (rst s 0) ≤ 255) && decide (0 ≤ posR s (tkR (rst s 0) 1)) && decide (posR s (tkR (rst s 0) 1) ≤ (↑(ByteArray.size s) : Int)) && holds (ByteArray.size s ≤ 2000000))
 (some ((.tup [.cv (.pv PV.nils), .cv (.pv (.bool false))], [])))
 none))
 none := by kernel_rfl
theorem jnx (l : List ImT) : jtI brC l =
 brC (isIms (PV.sl (List.length l) (encIm l)))
 (brC (!imgsB (asIms (PV.sl (List.length l) (encIm l))))
 (some ((.cv (.pv (.str { data := #[] })), [])))
 (brC (decide (ByteArray.size (litV (↑(List.length l) : Int) 1) ≤ 140737488351232))
 (brC (isIms (pIms l) && imgsB (asIms (pIms l)) && Nat.beq 12288 12288 && Nat.beq (5 + 1000000) 1000005 && isBy (PV.sl (ByteArray.size (litV (↑(List.length l) : Int) 1)) (jaj (litV (↑(List.length l) : Int) 1))) && holds (ByteArray.size (asBy (PV.sl (ByteArray.size (litV (↑(List.length l) : Int) 1)) (jaj (litV (↑(List.length l) : Int) 1)))) ≤ 10) && 0 == 0)
 (brC (Nat.beq (List.length (jaj (imsT (asBy (PV.sl (ByteArray.size (litV (↑(List.length l) : Int) 1)) (jaj (litV (↑(List.length l) : Int) 1)))) (asIms (pIms l))))) (ByteArray.size (imsT (asBy (PV.sl (ByteArray.size (litV (↑(List.length l) : Int) 1)) (jaj (litV (↑(List.length l) : Int) 1)))) (asIms (pIms l)))) && Option.isSome (jaV (jaj (imsT (asBy (PV.sl (ByteArray.size (litV (↑(List.length l) : Int) 1)) (jaj (litV (↑(List.length l) : Int) 1)))) (asIms (pIms l))))) && true)
 (some ((.cv (.pv (.str { data := List.toArray (Option.getD (jaV (jaj (imsT (asBy (PV.sl (ByteArray.size (litV (↑(List.length l) : Int) 1)) (jaj (litV (↑(List.length l) : Int) 1)))) (asIms (pIms l))))) []) })), [])))
 none)
 none)
 none))
 none := by kernel_rfl
end
section
open Go.RowKit
theorem jlM (d : ByteArray) (i j k l : Nat) (h : i + l ≤ j) : (d.extract i j).extract k l = d.extract (i + k) (i + l) := by
  rw [ByteArray.extract_extract, Nat.min_eq_left h]
theorem jbS {s : ByteArray} {k : Nat} (h : k ≤ s.size) : (rst s k).size = s.size - k := by
  unfold rst
  rw [ByteArray.size_extract]
  omega
theorem jk1 (s : ByteArray) : rst s 0 = s := by
  unfold rst
  exact ByteArray.extract_zero_size
theorem jrY {s : ByteArray} {k n : Nat} (h : k + n ≤ s.size) : tkS (rst s k) n = s.extract k (k + n) := by
  unfold tkS
  rw [if_pos (by rw [jbS (by omega)]; omega)]
  unfold rst
  rw [jlM _ _ _ _ _ h, Nat.add_zero]
theorem jkA {s : ByteArray} {k n : Nat} (h : k + n ≤ s.size) : tkR (rst s k) n = rst s (k + n) := by
  unfold tkR
  rw [if_pos (by rw [jbS (by omega)]; omega), jbS (by omega)]
  unfold rst
  rw [jlM _ _ _ _ _ (by omega), show k + (s.size - k) = s.size by omega]
theorem jh7 {s : ByteArray} {k n : Nat} (hk : k ≤ s.size) (h : ¬ k + n ≤ s.size) : tkR (rst s k) n = rst s k := by
  unfold tkR
  rw [if_neg (by rw [jbS hk]; omega)]
theorem jc9 {s : ByteArray} {k : Nat} (h : k ≤ s.size) : posR s (rst s k) = k := by
  unfold posR
  rw [jbS h, show s.size - (s.size - k) = k by omega]
theorem js7 {s : ByteArray} {k : Nat} (hk : k ≤ s.size) (n : Nat) : ∃ j : Nat, j ≤ s.size ∧ posR s (tkR (rst s k) n) = j ∧ tkR (rst s k) n = rst s j := by
  by_cases h : k + n ≤ s.size
  · exact ⟨k + n, h, by rw [jkA h, jc9 h], jkA h⟩
  · exact ⟨k, hk, by rw [jh7 hk h, jc9 hk], jh7 hk h⟩
theorem jlO : jab Tryz.prog 43 E_stake := jad mix (tab := []) trivial (lp := []) (LO := LO0) ⟨Tryz.func43, by kernel_rfl, by kernel_rfl⟩ (by kernel_rfl) fun ivs res bxs h => by
  unfold E_stake at h
  split at h
  · rename_i s a b n
    obtain ⟨hc, he⟩ := pick1 h
    cases he
    obtain ⟨hc, k3⟩ := andE hc
    obtain ⟨hc, k2⟩ := andE hc
    obtain ⟨k0, k1⟩ := andE hc
    have k0 := of_decide_eq_true k0
    have k1 := of_decide_eq_true k1
    have k2 := of_decide_eq_true k2
    have k3 := of_decide_eq_true k3
    obtain ⟨k, rfl⟩ : ∃ k : Nat, a = (k : Int) := ⟨a.toNat, by omega⟩
    obtain ⟨m, rfl⟩ : ∃ m : Nat, n = (m : Int) := ⟨n.toNat, by omega⟩
    have hk : k ≤ s.size := by omega
    refine ⟨jap (by kernel_rfl), (jmV s k b m).trans ?_⟩
    have w1 : IntKind.wrap .i64 ((s.size : Int) - (k : Int)) = (s.size : Int) - (k : Int) := wrapI (by omega) (by omega)
    rw [Int.toNat_natCast, Int.toNat_natCast, w1]
    by_cases hm : k + m ≤ s.size
    · have w2 : IntKind.wrap .i64 ((k : Int) + (m : Int)) = ((k + m : Nat) : Int) := by rw [wrapI (by omega) (by omega)]; omega
      have w3 : IntKind.wrap .i64 (((k + m : Nat) : Int) - (m : Int)) = (k : Int) := by rw [wrapI (by omega) (by omega)]; omega
      have hb : tkB (rst s k) b m = b := by unfold tkB; rw [if_pos (by rw [jbS hk]; omega)]
      rw [w2, w3, dF (by omega), jkA hm, jc9 hm, jrY hm, hb]
      simp (disch := omega) only [dT, Int.toNat_natCast, Bool.and_true]
      rfl
    · have hb : tkB (rst s k) b m = true := by unfold tkB; rw [if_neg (by rw [jbS hk]; omega)]
      have hS : tkS (rst s k) m = ⟨#[]⟩ := by unfold tkS; rw [if_neg (by rw [jbS hk]; omega)]
      rw [dT (by omega), jh7 hk hm, jc9 hk, hb, hS]
      rfl
  · cases h
theorem js6 : jae Tryz.prog keb0 := ⟨jlO, trivial⟩
theorem jsM : jab Tryz.prog 42 E_snum := jad mix js6 (lp := []) (LO := LO0) ⟨Tryz.func42, by kernel_rfl, by kernel_rfl⟩ (by kernel_rfl) fun ivs res bxs h => by
  unfold E_snum at h
  split at h
  · rename_i s a b
    obtain ⟨hc, he⟩ := pick1 h
    cases he
    obtain ⟨hc, k3⟩ := andE hc
    obtain ⟨k1, k2⟩ := andE hc
    refine ⟨jap (by kernel_rfl), (jnC s a b).trans ?_⟩
    rw [k1, k2, k3]
    by_cases h1 : 1 ≤ (rst s a.toNat).size
    · have e1 := tkS1 h1
      have hc := UInt8.toNat_lt ((rst s a.toNat).data.toList.getD 0 0)
      have hz : (tkS (rst s a.toNat) 1).size = 1 := by rw [jac, e1]; rfl
      have hl : (ByteArray.toList (tkS (rst s a.toNat) 1) == ([] : List UInt8)) = false := by rw [ByteArray.toList_eq, e1]; rfl
      have hv : oneV (rst s a.toNat) = (((rst s a.toNat).data.toList.getD 0 0).toNat : Int) := by
        unfold oneV numV
        rw [e1]
        show (((_ : Nat) + 256 * 0 : Nat) : Int) = _
        omega
      have w1 : IntKind.wrap .i64 (((((tkS (rst s a.toNat) 1).data.toList).getD 0 0).toNat : Nat) : Int) = (((rst s a.toNat).data.toList.getD 0 0).toNat : Int) := by
        rw [e1]
        exact wrapI (by show -9223372036854775808 ≤ (((rst s a.toNat).data.toList.getD 0 0).toNat : Int); omega) (by show (((rst s a.toNat).data.toList.getD 0 0).toNat : Int) ≤ 9223372036854775807; omega)
      rw [hl, w1, hz, hv]
      rfl
    · have e0 := tkS0 h1
      have hl : (ByteArray.toList (tkS (rst s a.toNat) 1) == ([] : List UInt8)) = true := by rw [e0]; exact jbl []
      have hv : oneV (rst s a.toNat) = 0 := by unfold oneV numV; rw [e0]; rfl
      rw [hl, hv]
      rfl
  · cases h
theorem jsG : jae Tryz.prog keb1 := ⟨jlV, jnp, jpX, jm9, trivial⟩
theorem jne (l : List ImT) (h : shIms l) (hB : imgsB l = true) : ∀ (m i : Nat) (s : ByteArray), m + i = l.length → s.size ≤ 10 + 500 * i →
    LoopsTo (rdB brC Tryz.prog keb1 jhO jhv Tryz.f32 5 []) [aP (pIms l), oR 3 s, aI i] (.exit 0, [aP (pIms l), oR 3 (imsT s (l.drop i))]) := by
  have hl := h.1
  obtain ⟨h240, hall⟩ := jbP hB
  intro m
  induction m with
  | zero =>
    intro i s hi hs
    rw [List.drop_eq_nil_of_le (by omega)]
    refine .done _ _ ((jip l s i).trans ?_)
    try delta zzam4
    try delta zzam3
    try delta zzam2
    try delta zzam1
    try delta zzam0
    rw [dF (by omega)]
    rfl
  | succ m ih =>
    intro i s hi hsz
    have hil : i < l.length := by omega
    have hsi := jcY h hil
    have tree := jip l s i
    revert tree; try delta zzam4; intro tree
    revert tree; try delta zzam3; intro tree
    revert tree; try delta zzam2; intro tree
    revert tree; try delta zzam1; intro tree
    revert tree; try delta zzam0; intro tree
    obtain ⟨ip, iw, ii⟩ := jdI (hall l[i] (List.getElem_mem hil))
    have zi := jhE (hall l[i] (List.getElem_mem hil))
    have zk := jed l[i].name l[i].subs
    have s1 := jbu (keyV2 l[i].name l[i].subs)
    have s2 := jbu l[i].was
    have s3 := jbu l[i].is
    have sa := ByteArray.size_append (a := s) (b := imV l[i])
    have l0 := jax 0 1
    have l1 := jax 1 1
    have l2 := jax 2 1
    have l3 := jax 3 1
    have a0 := ByteArray.size_append (a := jah (keyV2 l[i].name l[i].subs)) (b := litV 0 1)
    have a1 := ByteArray.size_append (a := jah (keyV2 l[i].name l[i].subs)) (b := litV 1 1)
    have a2 := ByteArray.size_append (a := jah (keyV2 l[i].name l[i].subs)) (b := litV 2 1)
    have a3 := ByteArray.size_append (a := jah (keyV2 l[i].name l[i].subs)) (b := litV 3 1)
    have a4 := ByteArray.size_append (a := jah l[i].was) (b := jah l[i].is)
    have a5 : (({ data := #[] } : ByteArray) ++ jah l[i].is).size = (jah l[i].is).size := by rw [jbn]
    have w1 : IntKind.wrap .i64 (1 + 2) = 3 := by decide
    have w2 : IntKind.wrap .i64 (0 + 2) = 2 := by decide
    have hK : (decide (l[i].name.size ≤ 1000000) && isL (PV.sl l[i].subs.length (l[i].subs.map PV.str))) = true := by
      rw [decide_eq_true hsi.1]
      exact jaq hsi.2.1
    have this := ih (i + 1) (s ++ imV l[i]) (by omega) (by omega)
    rw [List.drop_eq_getElem_cons hil]
    simp (disch := first | omega | rfl) only [ja4 l i hil, asL, jal, Int.toNat_natCast, List.length_cons, List.headD_cons, List.tail_cons, List.drop_zero, List.drop_succ_cons, PV.isStr, PV.asStr, PV.isSl, PV.slN, PV.slL, PV.isInt, PV.asInt, PV.isBool, PV.asBool, ble1, ble2, ble3, ble4, ble5, ble6, blt0, wrap1, Bool.and_true, Bool.true_and] at tree
    cases hh : l[i].had with
    | true =>
      cases hs : l[i].has with
      | true =>
        have hI : imV l[i] = jah (keyV2 l[i].name l[i].subs) ++ litV 3 1 ++ (jah l[i].was ++ jah l[i].is) := by
          rw [jen]
          unfold kindI valsI
          rw [hh, hs]
          simp only [if_true, if_false, Bool.false_eq_true, jbn, jcn]
          rfl
        rw [hh, hs, w1, w2, ← hI, jca s (imV l[i]), ← sa] at tree
        simp (disch := first | omega | rfl) only [dT, hK, Nat.mul_one, Nat.beq_refl, jbK, Bool.and_true, Bool.true_and] at tree
        exact .step _ _ _ tree this
      | false =>
        have hI : imV l[i] = jah (keyV2 l[i].name l[i].subs) ++ litV 1 1 ++ jah l[i].was := by
          rw [jen]
          unfold kindI valsI
          rw [hh, hs]
          simp only [if_true, if_false, Bool.false_eq_true, jbn, jcn]
          rfl
        rw [hh, hs, w1, w2, ← hI, jca s (imV l[i]), ← sa] at tree
        simp (disch := first | omega | rfl) only [dT, hK, Nat.mul_one, Nat.beq_refl, jbK, Bool.and_true, Bool.true_and] at tree
        exact .step _ _ _ tree this
    | false =>
      cases hs : l[i].has with
      | true =>
        have hI : imV l[i] = jah (keyV2 l[i].name l[i].subs) ++ litV 2 1 ++ ({ data := #[] } ++ jah l[i].is) := by
          rw [jen]
          unfold kindI valsI
          rw [hh, hs]
          simp only [if_true, if_false, Bool.false_eq_true, jbn, jcn]
          rfl
        rw [hh, hs, w1, w2, ← hI, jca s (imV l[i]), ← sa] at tree
        simp (disch := first | omega | rfl) only [dT, hK, Nat.mul_one, Nat.beq_refl, jbK, Bool.and_true, Bool.true_and] at tree
        exact .step _ _ _ tree this
      | false =>
        have hI : imV l[i] = jah (keyV2 l[i].name l[i].subs) ++ litV 0 1 ++ ({ data := #[] } : ByteArray) := by
          rw [jen]
          unfold kindI valsI
          rw [hh, hs]
          simp only [if_true, if_false, Bool.false_eq_true, jbn, jcn]
          rfl
        rw [hh, hs, w1, w2, ← hI, jca s (imV l[i]), ← sa] at tree
        simp (disch := first | omega | rfl) only [dT, hK, Nat.mul_one, Nat.beq_refl, jbK, Bool.and_true, Bool.true_and] at tree
        exact .step _ _ _ tree this
theorem jgn (X : ByteArray) : jaV (jaj X) = some X.data.toList := jbt X.data.toList
theorem jr2 : jab Tryz.prog 32 E_putIms := jad mix jsG (lp := jhO) (LO := jhv) ⟨Tryz.func32, by kernel_rfl, by kernel_rfl⟩ (by kernel_rfl) fun ivs res bxs h => by
  unfold E_putIms at h
  split at h
  · rename_i p
    obtain ⟨hc, he⟩ := pick1 h
    cases he
    obtain ⟨l, rfl, h_l⟩ := jar hc
    have e_l : asIms (pIms l) = l := jan l
    have i_l : isIms (pIms l) = true := jaz h_l
    rw [e_l]
    refine ⟨jaw 5 (by kernel_rfl) (by kernel_rfl) (by kernel_rfl) ?_, (jnx l).trans ?_⟩
    · intro ls e ls' hl
      replace hl : pickA (je5 ls) = some (e, ls') := hl
      unfold je5 at hl
      split at hl
      · rename_i p x e n2 l2 i
        obtain ⟨hc, he⟩ := pick1 hl
        cases he
        obtain ⟨hc, k6⟩ := andE hc
        obtain ⟨hc, k5⟩ := andE hc
        obtain ⟨hc, k4⟩ := andE hc
        obtain ⟨hc, k3⟩ := andE hc
        obtain ⟨hc, k2⟩ := andE hc
        obtain ⟨k0, k1⟩ := andE hc
        obtain ⟨t, rfl, h_t⟩ := jar k0
        obtain ⟨s, q_s, h_s⟩ := jar k4
        injection q_s with qa qb
        subst qa
        subst qb
        have e_t : asIms (pIms t) = t := jan t
        have e_s : asBy (.sl s.size (jaj s)) = s := jcK s
        rw [e_t] at k1 ⊢
        rw [e_s] at k5 ⊢
        obtain rfl := nqB k2
        obtain rfl := nqB k3
        obtain rfl := eq_of_beq k6
        exact jne t h_t k1 t.length 0 s (by omega) (by have := jak k5; omega)
      · cases hl
    · have i2 : isIms (PV.sl l.length (encIm l)) = true := i_l
      have e2 : asIms (PV.sl l.length (encIm l)) = l := e_l
      have z := jax (l.length : Int) 1
      have iB : isBy (.sl (litV (l.length : Int) 1).size (jaj (litV (l.length : Int) 1))) = true := jhe (show (litV (l.length : Int) 1).size ≤ 100000000 by omega)
      have aB : asBy (.sl (litV (l.length : Int) 1).size (jaj (litV (l.length : Int) 1))) = litV (l.length : Int) 1 := jcK _
      have q2 : holds ((litV (l.length : Int) 1).size ≤ 10) = true := jag (by omega)
      rw [jeb, iB, aB, i2, e2, q2, dT (show (litV (l.length : Int) 1).size ≤ 140737488351232 by omega), jgn, jbK, Nat.beq_refl]
      cases hB : imgsB l with
      | false =>
        rw [if_neg Bool.false_ne_true]
        rfl
      | true =>
        rw [if_pos rfl]
        simp only [Nat.reduceAdd, Nat.beq_refl, Bool.and_true, Bool.true_and, Option.isSome_some, Option.getD_some, beq_self_eq_true]
        show some (cS (bs (imsT (litV (l.length : Int) 1) l).data.toList), []) = _
        rw [jaL]
  · cases h
theorem jsL : jae Tryz.prog keb2 := ⟨jlO, jsM, jnb, jr2, trivial⟩
theorem bit1 : ∀ k : Nat, k < 256 → decide (bits .and .i64 (k : Int) 1 > 0) = bit k 1 := by
  intro k hk
  have h1 : (BitVec.ofInt 64 (k : Int)).toNat = k := by rw [BitVec.ofInt_natCast, BitVec.toNat_ofNat]; exact Nat.mod_eq_of_lt (by omega)
  have h2 : (BitVec.ofInt 64 (1 : Int)).toNat = 1 := by decide
  have e : bits .and .i64 (k : Int) 1 = ((k % 2 : Nat) : Int) := by
    show IntKind.i64.wrap ((BitVec.ofInt 64 (k : Int) &&& BitVec.ofInt 64 1).toNat : Int) = _
    rw [BitVec.toNat_and, h1, h2, show k &&& 1 = k % 2 from Nat.and_two_pow_sub_one_eq_mod k 1]
    exact wrapI (by omega) (by omega)
  unfold bit
  rw [e]
  rcases Nat.mod_two_eq_zero_or_one k with h | h <;> rw [h] <;> rfl
theorem bit2 : ∀ k : Nat, k < 256 → decide (bits .and .i64 (k : Int) 2 > 0) = bit k 2 := by decide +kernel
theorem jpI (r : ByteArray) : decide (bits .and .i64 (oneV r) 1 > 0) = bit (oneV r) 1 := by
  obtain ⟨h1, h2⟩ := jbf r
  have := bit1 (oneV r).toNat (by omega)
  rwa [show (((oneV r).toNat : Nat) : Int) = oneV r by omega] at this
theorem jnW (r : ByteArray) : decide (bits .and .i64 (oneV r) 2 > 0) = bit (oneV r) 2 := by
  obtain ⟨h1, h2⟩ := jbf r
  have := bit2 (oneV r).toNat (by omega)
  rwa [show (((oneV r).toNat : Nat) : Int) = oneV r by omega] at this
def Suf (s r : ByteArray) : Prop := ∃ k, k ≤ s.size ∧ r = rst s k
theorem Suf.tk {s r : ByteArray} (h : Suf s r) (n : Nat) : Suf s (tkR r n) := by
  obtain ⟨k, hk, rfl⟩ := h
  obtain ⟨j, h1, _, h3⟩ := js7 hk n
  exact ⟨j, h1, h3⟩
theorem Suf.all (s : ByteArray) : Suf s s := ⟨0, Nat.zero_le _, (jk1 s).symm⟩
theorem jpy {s r : ByteArray} (h : Suf s r) : rst s (Int.toNat (posR s r)) = r := by
  obtain ⟨k, hk, rfl⟩ := h
  rw [jc9 hk, Int.toNat_natCast]
theorem jog (s r : ByteArray) : decide (0 ≤ posR s r) = true := decide_eq_true (Int.natCast_nonneg _)
theorem joz (s r : ByteArray) : decide (posR s r ≤ (s.size : Int)) = true := decide_eq_true (by unfold posR; omega)
theorem jpz (r : ByteArray) : decide (0 ≤ oneV r) = true := decide_eq_true (jbf r).1
theorem jrl (s s2 r : ByteArray) (n : Int) (l : List ImT) (i : Nat) (hr : Suf s2 r) (hs2 : s2.size ≤ 2000000) (hl : l.length ≤ 300) (hi : (i : Int) < n) (hi2 : i ≤ 300) :
    rdB brC Tryz.prog keb2 jgh jfq Tryz.f61 5 [] [aS s, aSr 4 s2 (posR s2 r) false, aI n, aFs 6 l, aI i] = some (bif holds (isKy (t1S r)) then .inl [aS s, aSr 4 s2 (posR s2 (rd1 r false).r) (rd1 r false).b, aI n, aFs 6 (l ++ [(rd1 r false).im]), aI ((i + 1 : Nat) : Int)] else .inr (.ret, [aS s, aP .nils, aB false, aSr 4 s2 (posR s2 (rd1 r false).r) (rd1 r false).b, aFs 6 l])) := by
  have tree := jh4 s s2 (posR s2 r) false n l i
  revert tree; try delta zzal7; intro tree
  revert tree; try delta zzal6; intro tree
  revert tree; try delta zzal5; intro tree
  revert tree; try delta zzal4; intro tree
  revert tree; try delta zzal3; intro tree
  revert tree; try delta zzal2; intro tree
  revert tree; try delta zzal1; intro tree
  revert tree; try delta zzal0; intro tree
  have z7 : decide ((tkS (tkR r 1) (oneV r).toNat).size ≤ 2000) = true := decide_eq_true (by have := jic r; unfold t1S at this; omega)
  have y1 : decide (s2.size ≤ 2000000) = true := decide_eq_true hs2
  have y2 : decide (l.length + 1 ≤ 140737488351232) = true := decide_eq_true (by omega)
  have y3 : decide ((l.length + 1) * 88 ≤ 140737488355328) = true := decide_eq_true (by omega)
  have y4 : ∀ a b c d e f : PV, Nat.beq (List.length [a, b, c, d, e, f]) (1 * 6) = true := fun _ _ _ _ _ _ => rfl
  rw [dT hi] at tree
  simp (disch := (repeat (first | assumption | refine Suf.tk ?_ _))) only [jpy, jog, joz, jpz, jpI, jnW, z7, y1, y2, y3, y4, wrap1, Bool.and_true, Bool.true_and, Bool.not_false] at tree
  have w1 : IntKind.wrap .i64 ((i : Int) + 1) = ((i + 1 : Nat) : Int) := by rw [wrapI (by omega) (by omega)]; omega
  try rw [w1] at tree
  refine tree.trans ?_
  unfold aFs
  rw [jfA, List.length_append, jfR, List.length_singleton]
  unfold rd1 kName kSubs
  simp only [flI, b3, t1B, t1S, r3, t1R]
  clear tree z7 y1 y2 y3 y4
  cases hk : holds (isKy (tkS (tkR r 1) (oneV r).toNat)) <;> cases h1 : bit (oneV (tkR (tkR r 1) (oneV r).toNat)) 1 <;> cases h2 : bit (oneV (tkR (tkR r 1) (oneV r).toNat)) 2 <;> simp only [Bool.not_false, Bool.and_true, Bool.and_false, brC, cond_true, cond_false] <;> rfl
theorem Suf.t1 {s r : ByteArray} (h : Suf s r) : Suf s (t1R r) := Suf.tk (Suf.tk h _) _
theorem Suf.r3 {s r : ByteArray} (h : Suf s r) : Suf s (Go.Proofs.YtobhacnimkccmaaGreatDoor.r3 r) := Suf.tk (Suf.t1 h) _
theorem Suf.rd1 {s r : ByteArray} (h : Suf s r) (b : Bool) : Suf s (Go.Proofs.YtobhacnimkccmaaGreatDoor.rd1 r b).r := by
  have a := Suf.r3 h
  have c := Suf.t1 a
  have d := Suf.t1 c
  unfold Go.Proofs.YtobhacnimkccmaaGreatDoor.rd1
  dsimp only
  cases bit (flI r) 1 <;> cases bit (flI r) 2 <;> simp only [cond_true, cond_false]
  · exact a
  · exact c
  · exact c
  · exact d
noncomputable abbrev sgR (s s2 : ByteArray) (X : Bool × ByteArray × Bool × List ImT) : Ex × LS := if X.1 = true then (.exit 0, [aS s, aX, aX, aSr 4 s2 (posR s2 X.2.1) X.2.2.1, aFs 6 X.2.2.2]) else (.ret, [aS s, aP .nils, aB false, aSr 4 s2 (posR s2 X.2.1) X.2.2.1, aFs 6 X.2.2.2])
theorem jrq (s s2 : ByteArray) (n : Nat) (hs2 : s2.size ≤ 2000000) (hn : n ≤ 255) : ∀ (m i : Nat) (r : ByteArray) (b : Bool) (l : List ImT), m + i = n → Suf s2 r → l.length ≤ i →
    LoopsTo (rdB brC Tryz.prog keb2 jgh jfq Tryz.f61 5 []) [aS s, aSr 4 s2 (posR s2 r) b, aI n, aFs 6 l, aI i] (sgR s s2 (rdNS m r b l)) := by
  intro m
  induction m with
  | zero =>
    intro i r b l hm hr hl
    unfold rdNS sgR
    dsimp only
    rw [if_pos rfl]
    refine .done _ _ ((jh4 s s2 (posR s2 r) b n l i).trans ?_)
    try delta zzal7
    try delta zzal6
    try delta zzal5
    try delta zzal4
    try delta zzal3
    try delta zzal2
    try delta zzal1
    try delta zzal0
    rw [dF (by omega)]
    rfl
  | succ m ih =>
    intro i r b l hm hr hl
    unfold rdNS
    cases b with
    | true =>
      rw [cond_true]
      unfold sgR
      dsimp only
      rw [if_pos rfl]
      refine .done _ _ ((jh4 s s2 (posR s2 r) true n l i).trans ?_)
      try delta zzal7
      try delta zzal6
      try delta zzal5
      try delta zzal4
      try delta zzal3
      try delta zzal2
      try delta zzal1
      try delta zzal0
      rw [dT (show (i : Int) < (n : Int) by omega)]
      rfl
    | false =>
      rw [cond_false]
      have st := jrl s s2 r n l i hr hs2 (by omega) (by omega) (by omega)
      cases hk : holds (isKy (t1S r)) with
      | true =>
        rw [hk] at st
        rw [cond_true]
        have := ih (i + 1) (rd1 r false).r (rd1 r false).b (l ++ [(rd1 r false).im]) (by omega) (hr.rd1 false) (by rw [List.length_append, List.length_singleton]; omega)
        exact .step _ _ _ st this
      | false =>
        rw [hk] at st
        rw [cond_false]
        unfold sgR
        dsimp only
        rw [if_neg Bool.false_ne_true]
        exact .done _ _ st
theorem jnR : ∀ (m : Nat) (r : ByteArray) (b : Bool) (l : List ImT), (∀ x ∈ l, shIm x) → (∀ x ∈ (rdNS m r b l).2.2.2, shIm x) ∧ (rdNS m r b l).2.2.2.length ≤ l.length + m
  | 0, r, b, l, h => ⟨h, Nat.le_refl _⟩
  | m + 1, r, b, l, h => by
    unfold rdNS
    cases b with
    | true => exact ⟨h, by rw [cond_true]; dsimp only; omega⟩
    | false =>
      rw [cond_false]
      cases holds (isKy (t1S r)) with
      | true =>
        rw [cond_true]
        obtain ⟨h1, h2⟩ := jnR m (rd1 r false).r (rd1 r false).b (l ++ [(rd1 r false).im]) fun x hx => by
          rcases List.mem_append.1 hx with hx | hx
          · exact h x hx
          · rw [List.mem_singleton.1 hx]; exact jrM r false
        rw [List.length_append, List.length_singleton] at h2
        exact ⟨h1, by omega⟩
      | false => exact ⟨h, by rw [cond_false]; dsimp only; omega⟩
theorem juq (i : ImT) (r : ByteArray) (h : imgB i = true) : holds (isKy (t1S (imV i ++ r))) = true := by
  obtain ⟨hp, hw, hi⟩ := jdI h
  have hke : keyV2 i.name i.subs = bs (keyL i.name i.subs) := by rw [jeR, if_pos hp]
  have hkz : (keyV2 i.name i.subs).size ≤ 255 := by
    rw [hke, ja5]
    obtain ⟨h1, h2⟩ := jbw hp
    obtain ⟨h3, h4⟩ := jbo h2
    have h6 := jdd h1
    have h5 := jg3 i.subs h3 h4
    rw [jac] at h6
    unfold keyL
    rw [List.length_append, List.length_cons]
    omega
  have e : imV i ++ r = jah (keyV2 i.name i.subs) ++ (litV (kindI i) 1 ++ (valsI i ++ r)) := by
    rw [jen, ByteArray.append_assoc, ByteArray.append_assoc]
  rw [e, (jc8 _ _ hkz).1, hke]
  exact jag ⟨(i.name, i.subs), jaF _, hp⟩
theorem jly : ∀ (l pre : List ImT) (r : ByteArray), (∀ i ∈ l, imgB i = true) → rdNS l.length (imsT ⟨#[]⟩ l ++ r) false pre = (true, r, false, pre ++ l)
  | [], pre, r, _ => by
    unfold imsT
    rw [jbn, List.append_nil]
    rfl
  | x :: t, pre, r, h => by
    have ih := jly t (pre ++ [x]) r fun i hi => h i (List.mem_cons_of_mem _ hi)
    have e : imsT ⟨#[]⟩ (x :: t) ++ r = imV x ++ (imsT ⟨#[]⟩ t ++ r) := by
      rw [show imsT ⟨#[]⟩ (x :: t) = imsT (⟨#[]⟩ ++ imV x) t from rfl, jbn, jdc, ByteArray.append_assoc]
    have hx := h x (List.mem_cons_self ..)
    rw [e, List.length_cons]
    unfold rdNS
    rw [cond_false, juq x _ hx, cond_true, jrC x _ hx]
    dsimp only
    rw [ih, List.append_assoc]
    rfl
theorem jpr {xs : List ImT} (h : imgsB xs = true) : rdNS xs.length (tkR (putI xs) 1) false [] = (true, ⟨#[]⟩, false, xs) := by
  obtain ⟨h240, hall⟩ := jbP h
  have e : putI xs = litV (xs.length : Int) 1 ++ (imsT ⟨#[]⟩ xs ++ ⟨#[]⟩) := by rw [jeb, if_pos h, jdc, jcn]
  rw [e, jfG _ _ (jax _ _).symm, jly xs [] ⟨#[]⟩ hall]
  rfl
theorem joL : ∀ b ∈ jat (jbc Tryz.f61), jbk Tryz.prog (tabL keb2) (OL jgh) Tryz.f61.ntmps (pbOf []) jfq b := by
  refine jaw 5 (by kernel_rfl) (by kernel_rfl) (by kernel_rfl) ?_
  intro ls e ls' hl
  replace hl : pickA (jhA ls) = some (e, ls') := hl
  unfold jhA at hl
  split at hl
  · rename_i s x s2 a b n y e c l i
    have key : (Nat.beq x 16384 && Nat.beq y 24576 && Nat.beq e 115 && Nat.beq c 0 && nilB l && (i == 0) && decide (0 ≤ n) && decide (n ≤ 255) && decide (0 ≤ a) && decide (a ≤ s2.size) && holds (s2.size ≤ 2000000)) = true →
        LoopsTo (rdB brC Tryz.prog keb2 jgh jfq Tryz.f61 5 []) [aS s, (.ptr x 0, some (.box [.pv (.str s2), .pv (.int .i64 a), .pv (.bool b)])), aI n, (.own y, some (.lst 6 e c l false)), aI i] (sgR s s2 (rdNS n.toNat (rst s2 a.toNat) b [])) := fun hc => by
      obtain ⟨hc, g10⟩ := andE hc
      obtain ⟨hc, g9⟩ := andE hc
      obtain ⟨hc, g8⟩ := andE hc
      obtain ⟨hc, g7⟩ := andE hc
      obtain ⟨hc, g6⟩ := andE hc
      obtain ⟨hc, g5⟩ := andE hc
      obtain ⟨hc, g4⟩ := andE hc
      obtain ⟨hc, g3⟩ := andE hc
      obtain ⟨hc, g2⟩ := andE hc
      obtain ⟨g0, g1⟩ := andE hc
      have g6 := of_decide_eq_true g6
      have g7 := of_decide_eq_true g7
      have g8 := of_decide_eq_true g8
      have g9 := of_decide_eq_true g9
      rw [nqB g0, nqB g1, nqB g2, nqB g3, ja1 g4, eq_of_beq g5]
      obtain ⟨j, rfl⟩ : ∃ j : Nat, a = (j : Int) := ⟨a.toNat, by omega⟩
      obtain ⟨m, rfl⟩ : ∃ m : Nat, n = (m : Int) := ⟨n.toNat, by omega⟩
      rw [Int.toNat_natCast, Int.toNat_natCast]
      have hj : j ≤ s2.size := by omega
      have := jrq s s2 m (jak g10) (by omega) m 0 (rst s2 j) b [] rfl ⟨j, hj, rfl⟩ (Nat.le_refl _)
      rw [jc9 hj] at this
      exact this
    rcases pick2 hl with ⟨hc, he⟩ | ⟨hn, hc, he⟩
    · cases he
      obtain ⟨hc, k⟩ := andE hc
      have := key hc
      unfold sgR at this
      rw [k, if_pos rfl] at this
      exact this
    · cases he
      have := key hc
      rw [hc, Bool.true_and] at hn
      unfold sgR at this
      rw [hn, if_neg Bool.false_ne_true] at this
      exact this
  · cases hl
theorem jtR : jab Tryz.prog 61 E_sgi := jfC mix jsL (lp := jgh) (LO := jfq) ⟨Tryz.func61, by kernel_rfl, by kernel_rfl⟩ (by kernel_rfl) fun ivs res bxs h => by
  unfold E_sgi at h
  split at h
  · rename_i s
    refine ⟨joL, ?_⟩
    have tree := jre s
    have hs : s.size ≤ 2000000 := by
      rcases pick2 h with ⟨hc, _⟩ | ⟨_, hc, _⟩
      · exact of_decide_eq_true (andE hc).1
      · exact of_decide_eq_true hc
    have hd := decide_eq_true hs
    have o1 := jbf s
    have c1 : decide ((0 : Int) ≤ (s.size : Int)) = true := decide_eq_true (by omega)
    have c2 : decide (oneV s ≤ 255) = true := decide_eq_true o1.2
    have c3 : holds (s.size ≤ 2000000) = true := jag hs
    have c4 : rst s (Int.toNat (posR s (tkR s 1))) = tkR s 1 := jpy (Suf.tk (Suf.all s) 1)
    have c5 : decide ((0 : Int) ≤ 0) = true := rfl
    rw [jk1, c4] at tree
    simp only [hd, c1, c2, c3, c5, jog, joz, jpz, jbb, Nat.beq_refl, beq_self_eq_true, Bool.and_true, Bool.true_and] at tree
    rcases pick2 h with ⟨hc, he⟩ | ⟨hn, hc, he⟩
    · cases he
      obtain ⟨k0, k1⟩ := andE hc
      obtain ⟨xs, hx, rfl⟩ := jak k1
      rw [jcw hx]
      obtain ⟨p1, p2, p3, p4⟩ := jc0 hx
      have hz : (ByteArray.toList (putI xs) == ([] : List UInt8)) = false := by
        refine beq_eq_false_iff_ne.2 fun e => ?_
        rw [ByteArray.toList_eq, ← List.length_eq_zero_iff, ← jac] at e
        omega
      have hsh := jdY hx
      rw [p1, p2, Int.toNat_natCast, jpr hx] at tree
      dsimp only at tree
      rw [show isIms (PV.sl xs.length (encIm xs)) = true from jaz hsh, show asIms (PV.sl xs.length (encIm xs)) = xs from jan _, beq_self_eq_true, hz] at tree
      exact ⟨_, tree.trans rfl, rfl, rfl⟩
    · cases he
      have hno : ¬ jbz s := fun hk => by rw [hc, jag hk] at hn; cases hn
      refine ⟨.tup [cP .nils, cB false], ?_, rfl, rfl⟩
      obtain ⟨g1, g2⟩ := jnR (oneV s).toNat (tkR s 1) (tkB s false 1) [] (fun _ h => by cases h)
      generalize hX : rdNS (oneV s).toNat (tkR s 1) (tkB s false 1) [] = X at g1 g2 tree
      have hsh : shIms X.2.2.2 := ⟨by rw [List.length_nil] at g2; omega, g1⟩
      rw [show isIms (PV.sl X.2.2.2.length (encIm X.2.2.2)) = true from jaz hsh, show asIms (PV.sl X.2.2.2.length (encIm X.2.2.2)) = X.2.2.2 from jan _] at tree
      cases h0 : (ByteArray.toList s == ([] : List UInt8)) with
      | true =>
        rw [h0] at tree
        refine tree.trans ?_
        cases X.1 <;> cases X.2.2.1 <;> cases (ByteArray.toList (putI X.2.2.2) == ByteArray.toList s) <;> rfl
      | false =>
        have ne : (ByteArray.toList (putI X.2.2.2) == ByteArray.toList s) = false := by
          refine beq_eq_false_iff_ne.2 fun e => ?_
          by_cases hl : imgsB X.2.2.2 = true
          · exact hno ⟨X.2.2.2, hl, ByteArray.ext (Array.ext' (by rw [← ByteArray.toList_eq, ← ByteArray.toList_eq]; exact e.symm))⟩
          · rw [jeb, if_neg hl] at e
            rw [← e, show (ByteArray.toList (⟨#[]⟩ : ByteArray) == ([] : List UInt8)) = true from jbl []] at h0
            cases h0
        rw [h0, ne] at tree
        refine tree.trans ?_
        cases X.1 <;> cases X.2.2.1 <;> rfl
  · cases h
end
section
open Go.RowKit
noncomputable def pcB (no : Int) (l : List ImT) : Bool := decide (1 ≤ no) && decide (no ≤ 2000000000) && imgsB l
noncomputable def reb0 : List (FuncId × Entry) := (122, E_within) :: [(76, E_imgsOk)]
noncomputable def reb1 : List (FuncId × Entry) := (121, E_within) :: [(31, E_imgsOk)]
noncomputable def juf (br : Br) (no : Int) (n : Nat) (l : List PV) := evB br Tryz.prog reb0 [] LO0 Tryz.f65 [cP (.agg [.int .i64 no, .sl n l])]
noncomputable def jtB (br : Br) (no : Int) (n : Nat) (l : List PV) := evB br Tryz.prog reb1 [] LO0 Tryz.f63 [cP (.agg [.int .i64 no, .sl n l])]
noncomputable def E_pcOk : Entry := fun ivs => match ivs with
  | [.cv (.pv (.agg [.int .i64 no, .sl n l]))] => [(isIms (.sl n l), cB (pcB no (asIms (.sl n l))), [])]
  | _ => []
def headS (s : ByteArray) : ByteArray := s.extract 0 4
def tailS (s : ByteArray) : ByteArray := s.extract 4 s.size
noncomputable def reb2 : List (FuncId × Entry) := (28, E_gi) :: (64, E_number) :: [(65, E_pcOk)]
noncomputable def reb3 : List (FuncId × Entry) := (61, E_sgi) :: (62, E_number) :: [(63, E_pcOk)]
abbrev lp_gp : List (Nat × List Nat × List Nat) := [(1000000, [], [25, 30])]
noncomputable def q_gp (br : Br) (s : ByteArray) := evB br Tryz.prog reb2 lp_gp LO0 Tryz.f19 [cS s]
noncomputable def q_sgp (br : Br) (s : ByteArray) := evB br Tryz.prog reb3 [] LO0 Tryz.f18 [cS s]
noncomputable def isPc (s : ByteArray) : Bool := decide (4 ≤ s.size) && (holds (jbz (tailS s)) && (decide (1 ≤ numV (headS s)) && decide (numV (headS s) ≤ 2000000000)))
noncomputable def imP (s : ByteArray) : List ImT := decI (tailS s)
noncomputable def noP (s : ByteArray) : Int := numV (headS s)
noncomputable def E_gp : Entry := fun ivs => match ivs with
  | [.cv (.pv (.str s))] =>
    [(decide (s.size ≤ 2000000) && isPc s && Nat.beq (imP s).length 0, .tup [.agg [.pv (.int .i64 (noP s)), .lst 6 115 0 [] true], cB true], []),
     (decide (s.size ≤ 2000000) && isPc s, .tup [.agg [.pv (.int .i64 (noP s)), .dls 6 115 (imP s).length (encIm (imP s))], cB true], []),
     (decide (s.size ≤ 2000000), .tup [.agg [.pv (.int .i64 0), .pv .nils], cB false], [])]
  | _ => []
noncomputable def E_sgp : Entry := fun ivs => match ivs with
  | [.cv (.pv (.str s))] =>
    [(decide (s.size ≤ 2000000) && isPc s, .tup [.agg [.pv (.int .i64 (noP s)), .pv (pIms (imP s))], cB true], []),
     (decide (s.size ≤ 2000000), .tup [.agg [.pv (.int .i64 0), .pv .nils], cB false], [])]
  | _ => []
noncomputable def reb4 : List (FuncId × Entry) := (66, E_eqIs) :: (67, E_mkI) :: [(68, E_hdI)]
noncomputable def jtY (br : Br) (a b : Int) (l u : List ImT) := evB br Tryz.prog reb4 [] LO0 Tryz.f20 [cP (.agg [.int .i64 a, pIms l]), cP (.agg [.int .i64 b, pIms u])]
noncomputable def E_eqPc : Entry := fun ivs => match ivs with
  | [.cv (.pv (.agg [.int .i64 a, p])), .cv (.pv (.agg [.int .i64 b, q]))] => [(isIms p && isIms q, cB ((a == b) && holds (asIms p = asIms q)), [])]
  | _ => []
abbrev jh1 : List (Nat × List Nat × List Nat) := [(1000000, [], [2, 6]), (1000001, [1600128], [])]
noncomputable def jua (br : Br) (no : Int) (n : Nat) (l : List PV) := evB br Tryz.prog reb4 jh1 LO0 Tryz.f21 [.lk true [.int .i64 no] 6 (115 + 2000000) n l [], cI 1]
noncomputable def jtx (br : Br) (no : Int) := evB br Tryz.prog reb4 jh1 LO0 Tryz.f21 [.lk true [.int .i64 no] 6 115 0 [] [], cI 1]
noncomputable def jsb (br : Br) (no : Int) := evB br Tryz.prog reb4 jh1 LO0 Tryz.f21 [cP (.agg [.int .i64 no, .sl 0 []]), cI 1]
noncomputable def E_mkPc : Entry := fun ivs => match ivs with
  | [.lk true [.int .i64 no] 6 e n l [], .cv (.pv (.int .i64 k))] =>
    [(Nat.beq e (115 + 2000000) && isIms (.sl n l) && (k == 1) && decide (n ≤ 255), cI (mkE 1 (asIms (.sl n l))), [[.dls 6 115 n (encIm (mkIs 1 (asIms (.sl n l))))]]),
     (Nat.beq e 115 && Nat.beq n 0 && nilB l && (k == 1), cI 1, [[.lst 6 115 0 [] true]])]
  | [.cv (.pv (.agg [.int .i64 no, .sl n l])), .cv (.pv (.int .i64 k))] => [(Nat.beq n 0 && nilB l && (k == 1), cI 1, [])]
  | _ => []
noncomputable def juj (br : Br) (no : Int) (l : List ImT) := evB br Tryz.prog reb4 [] LO0 Tryz.f22 [cP (.agg [.int .i64 no, pIms l]), cI 1]
noncomputable def E_hdPc : Entry := fun ivs => match ivs with
  | [.cv (.pv (.agg [.int .i64 no, p])), .cv (.pv (.int .i64 k))] => [(isIms p && (k == 1) && decide ((asIms p).length ≤ 255) && holds (asIms p = mkIs 1 (asIms p)), cI (mkE 1 (asIms p)), [])]
  | _ => []
noncomputable def reb5 : List (FuncId × Entry) := (18, E_sgp) :: (19, E_gp) :: (20, E_eqPc) :: (21, E_mkPc) :: [(22, E_hdPc)]
abbrev jpb : List (Nat × List Nat × List Nat) := [(1000000, [], [24, 33, 36, 49, 58]), (1000001, [1600560], [])]
noncomputable def jrR (br : Br) (s : ByteArray) := evB br Tryz.prog reb5 jpb LO0 Tryz.f5 [cS s]
end
section
theorem jol (no : Int) (l : List ImT) : juj brC no l =
 brC (isIms (PV.sl (List.length l) (encIm l)) && 1 == 1 && decide (List.length (asIms (PV.sl (List.length l) (encIm l))) ≤ 255) && holds (asIms (PV.sl (List.length l) (encIm l)) = mkIs 1 (asIms (PV.sl (List.length l) (encIm l)))))
 (brC (decide (mkE 1 (asIms (PV.sl (List.length l) (encIm l))) < 0))
 (some ((.cv (.pv (.int .i64 (Int.negSucc 0))), [])))
 (some ((.cv (.pv (.int .i64 (mkE 1 (asIms (PV.sl (List.length l) (encIm l)))))), []))))
 none := by kernel_rfl
theorem jn6 (a : Int) (b : Int) (l : List ImT) (u : List ImT) : jtY brC a b l u =
 brC (a != b)
 (some ((.cv (.pv (.bool false)), [])))
 (brC (isIms (PV.sl (List.length l) (encIm l)) && isIms (PV.sl (List.length u) (encIm u)))
 (brC (!holds (asIms (PV.sl (List.length l) (encIm l)) = asIms (PV.sl (List.length u) (encIm u))))
 (some ((.cv (.pv (.bool false)), [])))
 (some ((.cv (.pv (.bool true)), []))))
 none) := by kernel_rfl
theorem jmk (no : Int) (n : Nat) (l : List PV) : jtB brC no n l =
 brC (decide (1 ≤ no) && decide (no ≤ 2000000000))
 (brC (isIms (PV.sl n l))
 (some ((.cv (.pv (.bool (imgsB (asIms (PV.sl n l))))), [])))
 none)
 (some ((.cv (.pv (.bool false)), []))) := by kernel_rfl
theorem jmz (no : Int) : jsb brC no =
 brC (Nat.beq 0 0 && nilB [] && 1 == 1)
 (some ((.cv (.pv (.int .i64 (Int.ofNat 1))), [])))
 none := by kernel_rfl
theorem jtk (s : ByteArray) : q_gp brC s =
 brC (decide ((↑(ByteArray.size s) : Int) < 4))
 (some ((.tup [.agg [.pv (.int .i64 (Int.ofNat 0)), .pv PV.nils], .cv (.pv (.bool false))], [])))
 (brC (decide (0 ≤ 4) && decide (4 ≤ (↑(ByteArray.size s) : Int)) && decide ((↑(ByteArray.size s) : Int) ≤ (↑(ByteArray.size s) : Int)) && true && true)
 (brC (decide (ByteArray.size (ByteArray.extract s 4 (Int.toNat (↑(ByteArray.size s) : Int))) ≤ 2000000) && holds (jbz (ByteArray.extract s 4 (Int.toNat (↑(ByteArray.size s) : Int)))) && Nat.beq (List.length (decI (ByteArray.extract s 4 (Int.toNat (↑(ByteArray.size s) : Int))))) 0)
 (brC (decide (0 ≤ 0) && decide (0 ≤ 4) && decide (4 ≤ (↑(ByteArray.size s) : Int)) && true && true)
 (brC (decide (ByteArray.size (ByteArray.extract s 0 4) ≤ 7))
 (brC (isIms (PV.sl 0 []))
 (brC (!pcB (numV (ByteArray.extract s 0 4)) (asIms (PV.sl 0 [])))
 (some ((.tup [.agg [.pv (.int .i64 (Int.ofNat 0)), .pv PV.nils], .cv (.pv (.bool false))], [])))
 (some ((.tup [.agg [.pv (.int .i64 (numV (ByteArray.extract s 0 4))), .lst 6 115 0 [] true], .cv (.pv (.bool true))], []))))
 none)
 none)
 none)
 (brC (decide (ByteArray.size (ByteArray.extract s 4 (Int.toNat (↑(ByteArray.size s) : Int))) ≤ 2000000) && holds (jbz (ByteArray.extract s 4 (Int.toNat (↑(ByteArray.size s) : Int)))))
 (brC (decide (0 ≤ 0) && decide (0 ≤ 4) && decide (4 ≤ (↑(ByteArray.size s) : Int)) && true && true)
 (brC (decide (ByteArray.size (ByteArray.extract s 0 4) ≤ 7))
 (brC (isIms (PV.sl (List.length (decI (ByteArray.extract s 4 (Int.toNat (↑(ByteArray.size s) : Int))))) (encIm (decI (ByteArray.extract s 4 (Int.toNat (↑(ByteArray.size s) : Int)))))))
 (brC (!pcB (numV (ByteArray.extract s 0 4)) (asIms (PV.sl (List.length (decI (ByteArray.extract s 4 (Int.toNat (↑(ByteArray.size s) : Int))))) (encIm (decI (ByteArray.extract s 4 (Int.toNat (↑(ByteArray.size s) : Int))))))))
 (some ((.tup [.agg [.pv (.int .i64 (Int.ofNat 0)), .pv PV.nils], .cv (.pv (.bool false))], [])))
 (some ((.tup [.agg [.pv (.int .i64 (numV (ByteArray.extract s 0 4))), .dls 6 115 (List.length (decI (ByteArray.extract s 4 (Int.toNat (↑(ByteArray.size s) : Int))))) (encIm (decI (ByteArray.extract s 4 (Int.toNat (↑(ByteArray.size s) : Int)))))], .cv (.pv (.bool true))], []))))
 none)
 none)
 none)
 (brC (decide (ByteArray.size (ByteArray.extract s 4 (Int.toNat (↑(ByteArray.size s) : Int))) ≤ 2000000))
 (brC (decide (0 ≤ 0) && decide (0 ≤ 4) && decide (4 ≤ (↑(ByteArray.size s) : Int)) && true && true)
 (brC (decide (ByteArray.size (ByteArray.extract s 0 4) ≤ 7))
 (some ((.tup [.agg [.pv (.int .i64 (Int.ofNat 0)), .pv PV.nils], .cv (.pv (.bool false))], [])))
 none)
 none)
 none)))
 none) := by kernel_rfl
theorem jl9 (no : Int) : jtx brC no =
 brC (Nat.beq 115 115 && Nat.beq 0 0 && nilB [] && 1 == 1)
 (some ((.cv (.pv (.int .i64 (Int.ofNat 1))), [[.lst 6 115 0 [] true]])))
 none := by kernel_rfl
theorem jnf (no : Int) (n : Nat) (l : List PV) : jua brC no n l =
 brC (Nat.beq (115 + 2000000 - 2000000 + 2000000) 2000115 && isIms (PV.sl n l) && 1 == 1 && decide (n ≤ 255))
 (brC (Nat.beq n n)
 (some ((.cv (.pv (.int .i64 (mkE 1 (asIms (PV.sl n l))))), [[.dls 6 115 n (encIm (mkIs 1 (asIms (PV.sl n l))))]])))
 none)
 none := by kernel_rfl
theorem joj (s : ByteArray) : jrR brC s =
 brC (decide ((↑(ByteArray.size s) : Int) > 1048576))
 (some ((.cv (.pv (.bool true)), [])))
 (brC (decide (ByteArray.size s ≤ 2000000) && isPc s)
 (brC (decide (ByteArray.size s ≤ 2000000) && isPc s && Nat.beq (List.length (imP s)) 0)
 (brC (isIms (PV.sl 0 []) && isIms (PV.sl (List.length (imP s)) (encIm (imP s))))
 (brC (!(noP s == noP s && holds (asIms (PV.sl 0 []) = asIms (PV.sl (List.length (imP s)) (encIm (imP s))))))
 (some ((.cv (.pv (.bool false)), [])))
 (brC (Nat.beq 115 115 && Nat.beq 0 0 && nilB [] && 1 == 1)
 (brC (isIms (PV.sl 0 []) && 1 == 1 && decide (List.length (asIms (PV.sl 0 [])) ≤ 255) && holds (asIms (PV.sl 0 []) = mkIs 1 (asIms (PV.sl 0 []))))
 (brC (decide (mkE 1 (asIms (PV.sl 0 [])) < 0))
 (some ((.cv (.pv (.bool false)), [])))
 (brC (mkE 1 (asIms (PV.sl 0 [])) != 1)
 (some ((.cv (.pv (.bool false)), [])))
 (brC (decide (ByteArray.size s ≤ 2000000) && isPc s && Nat.beq (List.length (imP s)) 0)
 (brC (isIms (PV.sl 0 []) && isIms (PV.sl (List.length (imP s)) (encIm (imP s))))
 (brC (!(noP s == noP s && holds (asIms (PV.sl 0 []) = asIms (PV.sl (List.length (imP s)) (encIm (imP s))))))
 (some ((.cv (.pv (.bool false)), [])))
 (brC (isIms (PV.sl 0 []) && 1 == 1 && decide (List.length (asIms (PV.sl 0 [])) ≤ 255) && holds (asIms (PV.sl 0 []) = mkIs 1 (asIms (PV.sl 0 []))))
 (brC (decide (mkE 1 (asIms (PV.sl 0 [])) < 0))
 (some ((.cv (.pv (.bool false)), [])))
 (brC (mkE 1 (asIms (PV.sl 0 [])) != 1)
 (some ((.cv (.pv (.bool false)), [])))
 (some ((.cv (.pv (.bool true)), [])))))
 none))
 none)
 (brC (decide (ByteArray.size s ≤ 2000000) && isPc s)
 (brC (isIms (PV.sl (List.length (imP s)) (encIm (imP s))) && isIms (PV.sl (List.length (imP s)) (encIm (imP s))))
 (brC (!(noP s == noP s && holds (asIms (PV.sl (List.length (imP s)) (encIm (imP s))) = asIms (PV.sl (List.length (imP s)) (encIm (imP s))))))
 (some ((.cv (.pv (.bool false)), [])))
 (brC (isIms (PV.sl 0 []) && 1 == 1 && decide (List.length (asIms (PV.sl 0 [])) ≤ 255) && holds (asIms (PV.sl 0 []) = mkIs 1 (asIms (PV.sl 0 []))))
 (brC (decide (mkE 1 (asIms (PV.sl 0 [])) < 0))
 (some ((.cv (.pv (.bool false)), [])))
 (brC (mkE 1 (asIms (PV.sl 0 [])) != 1)
 (some ((.cv (.pv (.bool false)), [])))
 (some ((.cv (.pv (.bool true)), [])))))
 none))
 none)
 (brC (decide (ByteArray.size s ≤ 2000000))
 (brC (isIms (PV.sl 0 []) && isIms (PV.sl (List.length (imP s)) (encIm (imP s))))
 (brC (!(0 == noP s && holds (asIms (PV.sl 0 []) = asIms (PV.sl (List.length (imP s)) (encIm (imP s))))))
 (some ((.cv (.pv (.bool false)), [])))
 (some ((.cv (.pv (.bool false)), []))))
 none)
 none)))))
 none)
 none))
 none)
 (brC (decide (ByteArray.size s ≤ 2000000) && isPc s)
 (brC (isIms (PV.sl (List.length (imP s)) (encIm (imP s))) && isIms (PV.sl (List.length (imP s)) (encIm (imP s))))
 (brC (!(noP s == noP s && holds (asIms (PV.sl (List.length (imP s)) (encIm (imP s))) = asIms (PV.sl (List.length (imP s)) (encIm (imP s))))))
 (some ((.cv (.pv (.bool false)), [])))
 (brC (Nat.beq (115 + 2000000) 2000115 && isIms (PV.sl (List.length (imP s)) (encIm (imP s))) && 1 == 1 && decide (List.length (imP s) ≤ 255))
 (brC (isIms (PV.sl (List.length (imP s)) (encIm (mkIs 1 (asIms (PV.sl (List.length (imP s)) (encIm (imP s))))))) && 1 == 1 && decide (List.length (asIms (PV.sl (List.length (imP s)) (encIm (mkIs 1 (asIms (PV.sl (List.length (imP s)) (encIm (imP s)))))))) ≤ 255) && holds (asIms (PV.sl (List.length (imP s)) (encIm (mkIs 1 (asIms (PV.sl (List.length (imP s)) (encIm (imP s))))))) = mkIs 1 (asIms (PV.sl (List.length (imP s)) (encIm (mkIs 1 (asIms (PV.sl (List.length (imP s)) (encIm (imP s))))))))))
 (brC (decide (mkE 1 (asIms (PV.sl (List.length (imP s)) (encIm (mkIs 1 (asIms (PV.sl (List.length (imP s)) (encIm (imP s)))))))) < 0))
 (some ((.cv (.pv (.bool false)), [])))
 (brC (mkE 1 (asIms (PV.sl (List.length (imP s)) (encIm (mkIs 1 (asIms (PV.sl (List.length (imP s)) (encIm (imP s)))))))) != mkE 1 (asIms (PV.sl (List.length (imP s)) (encIm (imP s)))))
 (some ((.cv (.pv (.bool false)), [])))
 (brC (decide (ByteArray.size s ≤ 2000000) && isPc s && Nat.beq (List.length (imP s)) 0)
 (brC (isIms (PV.sl 0 []) && isIms (PV.sl (List.length (imP s)) (encIm (imP s))))
 (brC (!(noP s == noP s && holds (asIms (PV.sl 0 []) = asIms (PV.sl (List.length (imP s)) (encIm (imP s))))))
 (some ((.cv (.pv (.bool false)), [])))
 (brC (isIms (PV.sl (List.length (imP s)) (encIm (mkIs 1 (asIms (PV.sl (List.length (imP s)) (encIm (imP s))))))) && 1 == 1 && decide (List.length (asIms (PV.sl (List.length (imP s)) (encIm (mkIs 1 (asIms (PV.sl (List.length (imP s)) (encIm (imP s)))))))) ≤ 255) && holds (asIms (PV.sl (List.length (imP s)) (encIm (mkIs 1 (asIms (PV.sl (List.length (imP s)) (encIm (imP s))))))) = mkIs 1 (asIms (PV.sl (List.length (imP s)) (encIm (mkIs 1 (asIms (PV.sl (List.length (imP s)) (encIm (imP s))))))))))
 (brC (decide (mkE 1 (asIms (PV.sl (List.length (imP s)) (encIm (mkIs 1 (asIms (PV.sl (List.length (imP s)) (encIm (imP s)))))))) < 0))
 (some ((.cv (.pv (.bool false)), [])))
 (brC (mkE 1 (asIms (PV.sl (List.length (imP s)) (encIm (mkIs 1 (asIms (PV.sl (List.length (imP s)) (encIm (imP s)))))))) != mkE 1 (asIms (PV.sl (List.length (imP s)) (encIm (imP s)))))
 (some ((.cv (.pv (.bool false)), [])))
 (some ((.cv (.pv (.bool true)), [])))))
 none))
 none)
 (brC (decide (ByteArray.size s ≤ 2000000) && isPc s)
 (brC (isIms (PV.sl (List.length (imP s)) (encIm (imP s))) && isIms (PV.sl (List.length (imP s)) (encIm (imP s))))
 (brC (!(noP s == noP s && holds (asIms (PV.sl (List.length (imP s)) (encIm (imP s))) = asIms (PV.sl (List.length (imP s)) (encIm (imP s))))))
 (some ((.cv (.pv (.bool false)), [])))
 (brC (isIms (PV.sl (List.length (imP s)) (encIm (mkIs 1 (asIms (PV.sl (List.length (imP s)) (encIm (imP s))))))) && 1 == 1 && decide (List.length (asIms (PV.sl (List.length (imP s)) (encIm (mkIs 1 (asIms (PV.sl (List.length (imP s)) (encIm (imP s)))))))) ≤ 255) && holds (asIms (PV.sl (List.length (imP s)) (encIm (mkIs 1 (asIms (PV.sl (List.length (imP s)) (encIm (imP s))))))) = mkIs 1 (asIms (PV.sl (List.length (imP s)) (encIm (mkIs 1 (asIms (PV.sl (List.length (imP s)) (encIm (imP s))))))))))
 (brC (decide (mkE 1 (asIms (PV.sl (List.length (imP s)) (encIm (mkIs 1 (asIms (PV.sl (List.length (imP s)) (encIm (imP s)))))))) < 0))
 (some ((.cv (.pv (.bool false)), [])))
 (brC (mkE 1 (asIms (PV.sl (List.length (imP s)) (encIm (mkIs 1 (asIms (PV.sl (List.length (imP s)) (encIm (imP s)))))))) != mkE 1 (asIms (PV.sl (List.length (imP s)) (encIm (imP s)))))
 (some ((.cv (.pv (.bool false)), [])))
 (some ((.cv (.pv (.bool true)), [])))))
 none))
 none)
 (brC (decide (ByteArray.size s ≤ 2000000))
 (brC (isIms (PV.sl 0 []) && isIms (PV.sl (List.length (imP s)) (encIm (imP s))))
 (brC (!(0 == noP s && holds (asIms (PV.sl 0 []) = asIms (PV.sl (List.length (imP s)) (encIm (imP s))))))
 (some ((.cv (.pv (.bool false)), [])))
 (some ((.cv (.pv (.bool false)), []))))
 none)
 none)))))
 none)
 none))
 none)
 (brC (decide (ByteArray.size s ≤ 2000000))
 (brC (isIms (PV.sl 0 []) && isIms (PV.sl (List.length (imP s)) (encIm (imP s))))
 (brC (!(0 == noP s && holds (asIms (PV.sl 0 []) = asIms (PV.sl (List.length (imP s)) (encIm (imP s))))))
 (some ((.cv (.pv (.bool false)), [])))
 (some ((.cv (.pv (.bool false)), []))))
 none)
 none)))
 (brC (decide (ByteArray.size s ≤ 2000000))
 (brC (decide (ByteArray.size s ≤ 2000000) && isPc s && Nat.beq (List.length (imP s)) 0)
 (brC (isIms (PV.sl 0 []) && isIms (PV.sl 0 []))
 (brC (!(noP s == 0 && holds (asIms (PV.sl 0 []) = asIms (PV.sl 0 []))))
 (some ((.cv (.pv (.bool false)), [])))
 (some ((.cv (.pv (.bool false)), []))))
 none)
 (brC (decide (ByteArray.size s ≤ 2000000) && isPc s)
 (brC (isIms (PV.sl (List.length (imP s)) (encIm (imP s))) && isIms (PV.sl 0 []))
 (brC (!(noP s == 0 && holds (asIms (PV.sl (List.length (imP s)) (encIm (imP s))) = asIms (PV.sl 0 []))))
 (some ((.cv (.pv (.bool false)), [])))
 (some ((.cv (.pv (.bool false)), []))))
 none)
 (brC (decide (ByteArray.size s ≤ 2000000))
 (brC (isIms (PV.sl 0 []) && isIms (PV.sl 0 []))
 (brC (!(0 == 0 && holds (asIms (PV.sl 0 []) = asIms (PV.sl 0 []))))
 (some ((.cv (.pv (.bool false)), [])))
 (brC (Nat.beq 0 0 && nilB [] && 1 == 1)
 (brC (isIms (PV.sl 0 []) && 1 == 1 && decide (List.length (asIms (PV.sl 0 [])) ≤ 255) && holds (asIms (PV.sl 0 []) = mkIs 1 (asIms (PV.sl 0 []))))
 (brC (decide (mkE 1 (asIms (PV.sl 0 [])) < 0))
 (some ((.cv (.pv (.bool false)), [])))
 (brC (mkE 1 (asIms (PV.sl 0 [])) != 1)
 (some ((.cv (.pv (.bool false)), [])))
 (brC (decide (ByteArray.size s ≤ 2000000) && isPc s && Nat.beq (List.length (imP s)) 0)
 (brC (isIms (PV.sl 0 []) && isIms (PV.sl 0 []))
 (brC (!(noP s == 0 && holds (asIms (PV.sl 0 []) = asIms (PV.sl 0 []))))
 (some ((.cv (.pv (.bool false)), [])))
 (some ((.cv (.pv (.bool false)), []))))
 none)
 (brC (decide (ByteArray.size s ≤ 2000000) && isPc s)
 (brC (isIms (PV.sl (List.length (imP s)) (encIm (imP s))) && isIms (PV.sl 0 []))
 (brC (!(noP s == 0 && holds (asIms (PV.sl (List.length (imP s)) (encIm (imP s))) = asIms (PV.sl 0 []))))
 (some ((.cv (.pv (.bool false)), [])))
 (some ((.cv (.pv (.bool false)), []))))
 none)
 (brC (decide (ByteArray.size s ≤ 2000000))
 (brC (isIms (PV.sl 0 []) && isIms (PV.sl 0 []))
 (brC (!(0 == 0 && holds (asIms (PV.sl 0 []) = asIms (PV.sl 0 []))))
 (some ((.cv (.pv (.bool false)), [])))
 (brC (isIms (PV.sl 0 []) && 1 == 1 && decide (List.length (asIms (PV.sl 0 [])) ≤ 255) && holds (asIms (PV.sl 0 []) = mkIs 1 (asIms (PV.sl 0 []))))
 (brC (decide (mkE 1 (asIms (PV.sl 0 [])) < 0))
 (some ((.cv (.pv (.bool false)), [])))
 (brC (mkE 1 (asIms (PV.sl 0 [])) != 1)
 (some ((.cv (.pv (.bool false)), [])))
 (some ((.cv (.pv (.bool true)), [])))))
 none))
 none)
 none)))))
 none)
 none))
 none)
 none)))
 none)) := by kernel_rfl
theorem jqa (s : ByteArray) : q_sgp brC s =
 brC (decide ((↑(ByteArray.size s) : Int) < 5))
 (some ((.tup [.agg [.pv (.int .i64 (Int.ofNat 0)), .pv PV.nils], .cv (.pv (.bool false))], [])))
 (brC (decide (0 ≤ 4) && decide (4 ≤ (↑(ByteArray.size s) : Int)) && decide ((↑(ByteArray.size s) : Int) ≤ (↑(ByteArray.size s) : Int)) && true && true)
 (brC (decide (ByteArray.size (ByteArray.extract s 4 (Int.toNat (↑(ByteArray.size s) : Int))) ≤ 2000000) && holds (jbz (ByteArray.extract s 4 (Int.toNat (↑(ByteArray.size s) : Int)))))
 (brC (decide (0 ≤ 0) && decide (0 ≤ 4) && decide (4 ≤ (↑(ByteArray.size s) : Int)) && true && true)
 (brC (decide (ByteArray.size (ByteArray.extract s 0 4) ≤ 7))
 (brC (isIms (PV.sl (List.length (decI (ByteArray.extract s 4 (Int.toNat (↑(ByteArray.size s) : Int))))) (encIm (decI (ByteArray.extract s 4 (Int.toNat (↑(ByteArray.size s) : Int)))))))
 (brC (!pcB (numV (ByteArray.extract s 0 4)) (asIms (PV.sl (List.length (decI (ByteArray.extract s 4 (Int.toNat (↑(ByteArray.size s) : Int))))) (encIm (decI (ByteArray.extract s 4 (Int.toNat (↑(ByteArray.size s) : Int))))))))
 (some ((.tup [.agg [.pv (.int .i64 (Int.ofNat 0)), .pv PV.nils], .cv (.pv (.bool false))], [])))
 (some ((.tup [.agg [.pv (.int .i64 (numV (ByteArray.extract s 0 4))), .pv (.sl (List.length (decI (ByteArray.extract s 4 (Int.toNat (↑(ByteArray.size s) : Int))))) (encIm (decI (ByteArray.extract s 4 (Int.toNat (↑(ByteArray.size s) : Int))))))], .cv (.pv (.bool true))], []))))
 none)
 none)
 none)
 (brC (decide (ByteArray.size (ByteArray.extract s 4 (Int.toNat (↑(ByteArray.size s) : Int))) ≤ 2000000))
 (brC (decide (0 ≤ 0) && decide (0 ≤ 4) && decide (4 ≤ (↑(ByteArray.size s) : Int)) && true && true)
 (brC (decide (ByteArray.size (ByteArray.extract s 0 4) ≤ 7))
 (some ((.tup [.agg [.pv (.int .i64 (Int.ofNat 0)), .pv PV.nils], .cv (.pv (.bool false))], [])))
 none)
 none)
 none))
 none) := by kernel_rfl
theorem jnt (no : Int) (n : Nat) (l : List PV) : juf brC no n l =
 brC (decide (1 ≤ no) && decide (no ≤ 2000000000))
 (brC (isIms (PV.sl n l))
 (some ((.cv (.pv (.bool (imgsB (asIms (PV.sl n l))))), [])))
 none)
 (some ((.cv (.pv (.bool false)), []))) := by kernel_rfl
end
section
open Go.RowKit Go.ChangeShapes Go.WideShapes
theorem js9 {w : World} {b : Nat} {xs : List Value} (h : ∃ t f, w.heap[b]? = some (.cells xs.toArray t f)) : GlRow w (jbU w) b xs := by
  obtain ⟨t, f, h⟩ := h
  refine ⟨⟨t, f, h⟩, ?_⟩
  unfold jbU
  rw [h]
  simp
theorem joP {w : World} {name : String} {g : Nat} {k : IntKind} {zs : List Int} (hg : Tryz.prog.globalNamed name = some g) (h : Lib.TabIs Tryz.prog w name k zs) : GlRow w (jbU w) g (zs.map fun z => Value.int k z) := by
  unfold Lib.TabIs World.var? at h
  rw [hg] at h
  dsimp only [Option.bind_some] at h
  split at h
  · rename_i cs t f hb
    cases h
    exact js9 ⟨t, f, hb⟩
  · cases h
theorem gl_top {w : World}
  (hm : ∃ m : Int, w.cell? ⟨0, 0, none⟩ = some (.int .i64 m))
  (ht : Lib.TabIs Tryz.prog w "internal/strconv.uint64pow10" .u64 Lib.pow10Tab)
  : Gl w (jbU w) := by
  unfold Gl
  refine ⟨?_, ?_⟩
  · obtain ⟨m, hm⟩ := hm
    exact ⟨m, hm, jjp hm⟩
  refine ⟨joP (by kernel_rfl) ht, ?_⟩
  trivial
end
section
open Go.RowKit
theorem jug {α : Type} {c d e : Bool} {r r1 r2 q : α} (h : pickA [(c, r), (d, r1), (e, r2)] = some q) : (c = true ∧ r = q) ∨ (c = false ∧ d = true ∧ r1 = q) ∨ (c = false ∧ d = false ∧ e = true ∧ r2 = q) := by
  cases c with
  | true => exact .inl ⟨rfl, by injection h⟩
  | false =>
    cases d with
    | true => exact .inr (.inl ⟨rfl, rfl, by injection h⟩)
    | false =>
      cases e with
      | true => exact .inr (.inr ⟨rfl, rfl, rfl, by injection h⟩)
      | false => cases h
theorem jsB : jae Tryz.prog reb0 := ⟨jid, ji0, trivial⟩
theorem jtC : jae Tryz.prog reb1 := ⟨ok_In, jlV, trivial⟩
theorem jsf : jab Tryz.prog 65 E_pcOk := jad mix jsB (lp := []) (LO := LO0) ⟨Tryz.func65, by kernel_rfl, by kernel_rfl⟩ (by kernel_rfl) fun ivs res bxs h => by
  unfold E_pcOk at h
  split at h
  · rename_i no n l
    obtain ⟨hc, he⟩ := pick1 h
    cases he
    refine ⟨jap (by kernel_rfl), (jnt no n l).trans ?_⟩
    rw [hc]
    unfold pcB
    cases decide (1 ≤ no) <;> cases decide (no ≤ 2000000000) <;> rfl
  · cases h
theorem jqJ : jab Tryz.prog 63 E_pcOk := jad mix jtC (lp := []) (LO := LO0) ⟨Tryz.func63, by kernel_rfl, by kernel_rfl⟩ (by kernel_rfl) fun ivs res bxs h => by
  unfold E_pcOk at h
  split at h
  · rename_i no n l
    obtain ⟨hc, he⟩ := pick1 h
    cases he
    refine ⟨jap (by kernel_rfl), (jmk no n l).trans ?_⟩
    rw [hc]
    unfold pcB
    cases decide (1 ≤ no) <;> cases decide (no ≤ 2000000000) <;> rfl
  · cases h
theorem jrV : jae Tryz.prog reb2 := ⟨ok_gi, jph, jsf, trivial⟩
theorem jrS : jae Tryz.prog reb3 := ⟨jtR, jpN, jqJ, trivial⟩
theorem jnN {s : ByteArray} (h4 : 4 ≤ s.size) {xs : List ImT} (hx : imgsB xs = true) (hs : tailS s = putI xs) : isPc s = pcB (numV (headS s)) xs ∧ imP s = xs := by
  unfold isPc pcB imP
  rw [dT h4, hs, jag ⟨xs, hx, rfl⟩, jcw hx, hx, Bool.and_true, Bool.true_and, Bool.true_and]
  exact ⟨rfl, rfl⟩
theorem jhf {s : ByteArray} (h : ¬ (4 ≤ s.size ∧ jbz (tailS s))) : isPc s = false := by
  unfold isPc
  by_cases h4 : 4 ≤ s.size
  · have hI : holds (jbz (tailS s)) = false := @decide_eq_false _ (Classical.propDecidable _) fun hI => h ⟨h4, hI⟩
    rw [hI, Bool.false_and, Bool.and_false]
  · rw [dF h4, Bool.false_and]
theorem jnG (s : ByteArray) : (tailS s).size = s.size - 4 := by unfold tailS; rw [ByteArray.size_extract]; omega
theorem jnl (s : ByteArray) : (headS s).size ≤ 4 := by unfold headS; rw [ByteArray.size_extract]; omega
theorem jqx {s : ByteArray} (h : jbz s) : 1 ≤ s.size := by
  obtain ⟨xs, hx, rfl⟩ := h
  exact (jc0 hx).2.2.2
theorem jnk (s : ByteArray) (hs : s.size ≤ 2000000) : q_gp brC s = some (bif isPc s then (bif Nat.beq (imP s).length 0 then .tup [.agg [.pv (.int .i64 (noP s)), .lst 6 115 0 [] true], cB true] else .tup [.agg [.pv (.int .i64 (noP s)), .dls 6 115 (imP s).length (encIm (imP s))], cB true]) else .tup [.agg [.pv (.int .i64 0), .pv .nils], cB false], []) := by
  have tree := jtk s
  have z1 := jnG s
  have z2 := jnl s
  have i0 : isIms (PV.sl 0 []) = true := jaz jfj
  have a0 : asIms (PV.sl 0 []) = [] := jan []
  rw [Int.toNat_natCast, show ByteArray.extract s 4 s.size = tailS s from rfl, show ByteArray.extract s 0 4 = headS s from rfl, i0, a0] at tree
  by_cases h4 : 4 ≤ s.size
  · rw [dF (show ¬ (s.size : Int) < 4 by omega), dT (show (tailS s).size ≤ 2000000 by omega), dT (show (headS s).size ≤ 7 by omega), dT (show (4 : Int) ≤ (s.size : Int) by omega), dT (Int.le_refl (s.size : Int))] at tree
    by_cases hI : jbz (tailS s)
    · rw [jag hI] at tree
      obtain ⟨xs, hx, he⟩ := hI
      obtain ⟨p1, p2⟩ := jnN h4 hx he
      rw [p1, p2]
      unfold noP
      have hsh := jdY hx
      rw [he, jcw hx, show isIms (PV.sl xs.length (encIm xs)) = true from jaz hsh, show asIms (PV.sl xs.length (encIm xs)) = xs from jan xs] at tree
      by_cases hz : xs = []
      · subst hz
        refine tree.trans ?_
        cases pcB (numV (headS s)) [] <;> rfl
      · rw [show Nat.beq xs.length 0 = false from Bool.eq_false_iff.2 fun e => hz (List.length_eq_zero_iff.1 (nqB e))] at tree ⊢
        refine tree.trans ?_
        cases pcB (numV (headS s)) xs <;> rfl
    · rw [jhf fun h => hI h.2]
      have hF : holds (jbz (tailS s)) = false := @decide_eq_false _ (Classical.propDecidable _) hI
      rw [hF] at tree
      exact tree.trans rfl
  · rw [jhf fun h => h4 h.1]
    rw [dT (show (s.size : Int) < 4 by omega)] at tree
    exact tree.trans rfl
theorem job (s : ByteArray) (hs : s.size ≤ 2000000) : q_sgp brC s = some (bif isPc s then .tup [.agg [.pv (.int .i64 (noP s)), .pv (pIms (imP s))], cB true] else .tup [.agg [.pv (.int .i64 0), .pv .nils], cB false], []) := by
  have tree := jqa s
  have z1 := jnG s
  have z2 := jnl s
  rw [Int.toNat_natCast, show ByteArray.extract s 4 s.size = tailS s from rfl, show ByteArray.extract s 0 4 = headS s from rfl] at tree
  by_cases h4 : 4 ≤ s.size
  · by_cases hI : jbz (tailS s)
    · have h5 := jqx hI
      rw [dF (show ¬ (s.size : Int) < 5 by omega), dT (show (tailS s).size ≤ 2000000 by omega), dT (show (headS s).size ≤ 7 by omega), dT (show (4 : Int) ≤ (s.size : Int) by omega), dT (Int.le_refl (s.size : Int)), jag hI] at tree
      obtain ⟨xs, hx, he⟩ := hI
      obtain ⟨p1, p2⟩ := jnN h4 hx he
      rw [p1, p2]
      unfold noP
      have hsh := jdY hx
      rw [he, jcw hx, show isIms (PV.sl xs.length (encIm xs)) = true from jaz hsh, show asIms (PV.sl xs.length (encIm xs)) = xs from jan xs] at tree
      refine tree.trans ?_
      cases pcB (numV (headS s)) xs <;> rfl
    · rw [jhf fun h => hI h.2]
      have hF : holds (jbz (tailS s)) = false := @decide_eq_false _ (Classical.propDecidable _) hI
      rw [hF] at tree
      by_cases h5 : (s.size : Int) < 5
      · rw [dT h5] at tree
        exact tree.trans rfl
      · rw [dF h5, dT (show (tailS s).size ≤ 2000000 by omega), dT (show (headS s).size ≤ 7 by omega), dT (show (4 : Int) ≤ (s.size : Int) by omega), dT (Int.le_refl (s.size : Int))] at tree
        exact tree.trans rfl
  · rw [jhf fun h => h4 h.1]
    rw [dT (show (s.size : Int) < 5 by omega)] at tree
    exact tree.trans rfl
theorem ok_gp : jab Tryz.prog 19 E_gp := jad mix jrV (lp := lp_gp) (LO := LO0) ⟨Tryz.func19, by kernel_rfl, by kernel_rfl⟩ (by kernel_rfl) fun ivs res bxs h => by
  unfold E_gp at h
  split at h
  · rename_i s
    refine ⟨jap (by kernel_rfl), ?_⟩
    rcases jug h with ⟨hc, he⟩ | ⟨hn, hc, he⟩ | ⟨hn, hn2, hc, he⟩
    · cases he
      obtain ⟨hc, k2⟩ := andE hc
      obtain ⟨k0, k1⟩ := andE hc
      refine (jnk s (of_decide_eq_true k0)).trans ?_
      rw [k1, k2]
      rfl
    · cases he
      obtain ⟨k0, k1⟩ := andE hc
      rw [hc, Bool.true_and] at hn
      refine (jnk s (of_decide_eq_true k0)).trans ?_
      rw [k1, hn]
      rfl
    · cases he
      rw [hc, Bool.true_and] at hn2
      refine (jnk s (of_decide_eq_true hc)).trans ?_
      rw [hn2]
      rfl
  · cases h
theorem juh : jab Tryz.prog 18 E_sgp := jad mix jrS (lp := []) (LO := LO0) ⟨Tryz.func18, by kernel_rfl, by kernel_rfl⟩ (by kernel_rfl) fun ivs res bxs h => by
  unfold E_sgp at h
  split at h
  · rename_i s
    refine ⟨jap (by kernel_rfl), ?_⟩
    rcases pick2 h with ⟨hc, he⟩ | ⟨hn, hc, he⟩
    · cases he
      obtain ⟨k0, k1⟩ := andE hc
      refine (job s (of_decide_eq_true k0)).trans ?_
      rw [k1]
      rfl
    · cases he
      rw [hc, Bool.true_and] at hn
      refine (job s (of_decide_eq_true hc)).trans ?_
      rw [hn]
      rfl
  · cases h
theorem jkm : jae Tryz.prog reb4 := ⟨jte, jt6, jtG, trivial⟩
theorem jsy : jab Tryz.prog 20 E_eqPc := jad mix jkm (lp := []) (LO := LO0) ⟨Tryz.func20, by kernel_rfl, by kernel_rfl⟩ (by kernel_rfl) fun ivs res bxs h => by
  unfold E_eqPc at h
  split at h
  · rename_i a p b q
    obtain ⟨hc, he⟩ := pick1 h
    cases he
    obtain ⟨k0, k1⟩ := andE hc
    obtain ⟨t, rfl, h_t⟩ := jar k0
    obtain ⟨u, rfl, h_u⟩ := jar k1
    refine ⟨jap (by kernel_rfl), (jn6 a b t u).trans ?_⟩
    rw [show isIms (PV.sl t.length (encIm t)) = true from jaz h_t, show isIms (PV.sl u.length (encIm u)) = true from jaz h_u, show asIms (PV.sl t.length (encIm t)) = t from jan t, show asIms (PV.sl u.length (encIm u)) = u from jan u]
    unfold bne
    cases (a == b) <;> cases holds (t = u) <;> rfl
  · cases h
theorem jty : jab Tryz.prog 21 E_mkPc := jad mix jkm (lp := jh1) (LO := LO0) ⟨Tryz.func21, by kernel_rfl, by kernel_rfl⟩ (by kernel_rfl) fun ivs res bxs h => by
  unfold E_mkPc at h
  split at h
  · rename_i no e n l k
    rcases pick2 h with ⟨hc, he⟩ | ⟨hn, hc, he⟩
    · cases he
      obtain ⟨hc, g3⟩ := andE hc
      obtain ⟨hc, g2⟩ := andE hc
      obtain ⟨g0, g1⟩ := andE hc
      obtain rfl := nqB g0
      obtain rfl := eq_of_beq g2
      refine ⟨jap (by kernel_rfl), (jnf no n l).trans ?_⟩
      rw [g1, g3, Nat.beq_refl n]
      rfl
    · cases he
      obtain ⟨hc, g3⟩ := andE hc
      obtain ⟨hc, g2⟩ := andE hc
      obtain ⟨g0, g1⟩ := andE hc
      obtain rfl := nqB g0
      obtain rfl := nqB g1
      obtain rfl := ja1 g2
      obtain rfl := eq_of_beq g3
      refine ⟨jap (by kernel_rfl), (jl9 no).trans ?_⟩
      rw [jbb]
      rfl
  · rename_i no n l k
    obtain ⟨hc, he⟩ := pick1 h
    cases he
    obtain ⟨hc, g2⟩ := andE hc
    obtain ⟨g0, g1⟩ := andE hc
    obtain rfl := nqB g0
    obtain rfl := ja1 g1
    obtain rfl := eq_of_beq g2
    refine ⟨jap (by kernel_rfl), (jmz no).trans ?_⟩
    rw [jbb]
    rfl
  · cases h
theorem jtm : jab Tryz.prog 22 E_hdPc := jad mix jkm (lp := []) (LO := LO0) ⟨Tryz.func22, by kernel_rfl, by kernel_rfl⟩ (by kernel_rfl) fun ivs res bxs h => by
  unfold E_hdPc at h
  split at h
  · rename_i no p k
    obtain ⟨hc, he⟩ := pick1 h
    cases he
    obtain ⟨hc, k3⟩ := andE hc
    obtain ⟨hc, k2⟩ := andE hc
    obtain ⟨k0, k1⟩ := andE hc
    obtain ⟨t, rfl, h_t⟩ := jar k0
    have e_t : asIms (pIms t) = t := jan t
    obtain rfl := eq_of_beq k1
    rw [e_t] at k2 k3 ⊢
    refine ⟨jap (by kernel_rfl), (jol no t).trans ?_⟩
    have hge := jn4 t 1
    rw [show isIms (PV.sl t.length (encIm t)) = true from jaz h_t, show asIms (PV.sl t.length (encIm t)) = t from jan t, k2, k3, dF (show ¬ mkE 1 t < 0 by omega)]
    rfl
  · cases h
theorem jpm (s : ByteArray) : jrR brC s = some (cB true, []) := by
  refine (joj s).trans ?_
  by_cases h : s.size ≤ 1048576
  · rw [dF (show ¬ (s.size : Int) > 1048576 by omega), dT (show s.size ≤ 2000000 by omega)]
    have i0 : isIms (PV.sl 0 []) = true := jaz jfj
    have a0 : asIms (PV.sl 0 []) = [] := jan []
    have e0 : mkIs 1 ([] : List ImT) = [] := rfl
    have e1 : mkE 1 ([] : List ImT) = 1 := rfl
    have hh0 : holds (([] : List ImT) = []) = true := jag rfl
    have hT : holds True = true := jag trivial
    cases hp : isPc s with
    | true =>
      have hI : jbz (tailS s) := by
        unfold isPc at hp
        exact jak (andE (andE hp).2).1
      obtain ⟨xs, hx, he⟩ := hI
      have hq : imP s = xs := by unfold imP; rw [he, jcw hx]
      rw [hq]
      have hsh := jdY hx
      have hl := (jbP hx).1
      have i1 : isIms (PV.sl xs.length (encIm xs)) = true := jaz hsh
      have a1 : asIms (PV.sl xs.length (encIm xs)) = xs := jan xs
      have hml := jlp 1 xs
      have i2 : isIms (PV.sl xs.length (encIm (mkIs 1 xs))) = true := by
        have := jaz (t := mkIs 1 xs) ⟨by rw [hml]; omega, joC _ _ hsh.2⟩
        rwa [hml] at this
      have a2 : asIms (PV.sl xs.length (encIm (mkIs 1 xs))) = mkIs 1 xs := by
        have := jan (mkIs 1 xs)
        rwa [hml] at this
      have hh1 : holds (xs = xs) = true := jag rfl
      have hh2 : holds (mkIs 1 xs = mkIs 1 (mkIs 1 xs)) = true := jag (ji1 1 xs).symm
      have hge := jn4 xs 1
      have hd1 : decide (mkE 1 xs < 0) = false := dF (by omega)
      have hd2 : decide (xs.length ≤ 255) = true := dT (by omega)
      by_cases hz : xs = []
      · subst hz
        simp only [i0, a0, e0, e1, hh0, hT, List.length_nil, show encIm [] = [] from rfl, jbb, beq_self_eq_true]
        rfl
      · have hz2 : Nat.beq xs.length 0 = false := Bool.eq_false_iff.2 fun e => hz (List.length_eq_zero_iff.1 (nqB e))
        rw [i1, a1, i2, a2, jrG, hml, hh1, hh2, hd1, hd2, hz2, bne_self_eq_false, beq_self_eq_true]
        rfl
    | false =>
      rw [i0, a0]
      simp only [Bool.and_false, Bool.false_and, jbb, e0, e1, hh0, hT]
      rfl
  · rw [dT (show (s.size : Int) > 1048576 by omega)]
    rfl
theorem jta : jae Tryz.prog reb5 := ⟨juh, ok_gp, jsy, jty, jtm, trivial⟩
theorem FnExactGetParcel_walk (v : Value) (s : ByteArray) (w : World) (hv : PRep w (jbU w) v (.str s)) (_ : s.size ≤ 2 ^ 63 - 1) (hgl : Gl w (jbU w)) :
    Calls Tryz.prog 5 #[v] w fun e w' => e = .returned (.bool true) ∧ Below w.heap.size w w' := by
  cases hv
  have hc : jaG Tryz.prog 5 ([.str s].map fun p => .cv (.pv p)) (.cv (.pv (.bool true))) [] :=
    jjI mix (jhN (l := reb5) jta) (O := OL jpb) (LO := LO0) ⟨Tryz.func5, by kernel_rfl, by kernel_rfl⟩ (by kernel_rfl) rfl (jap (by kernel_rfl)) (jpm s)
  exact hc.lawTop (w := w) (vals := [.string s]) (PReps.cons (.str s) (PReps.nil _ _)) hgl
end
section
end
end Go.Proofs.YtobhacnimkccmaaGreatDoor
