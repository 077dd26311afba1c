import Derived.Test.YtlenmjklpiccdaaGreatDoorZZj
import Derived.Test.YtlenmjklpiccdaaGreatDoorZZe
import Derived.Test.YtlenmjklpiccdaaGreatDoorZZg
import Derived.ChangeSlices
import Derived.WideShapes
import Derived.OpenShut
namespace Go.Proofs.YtlenmjklpiccdaaGreatDoor
section
set_option linter.unusedVariables false
set_option maxRecDepth 100000
noncomputable def zzb0 (s : ByteArray) (s2 : ByteArray) (a : Int) (b : Bool) (n : Int) (l : List ImT) (i : Int) := (rst s2 (Int.toNat (posR s2 (tkR (rst s2 (Int.toNat (posR s2 (tkR (rst s2 (Int.toNat a)) 1)))) (Int.toNat (oneV (rst s2 (Int.toNat a))))))))
noncomputable def zzb1 (s : ByteArray) (s2 : ByteArray) (a : Int) (b : Bool) (n : Int) (l : List ImT) (i : Int) := (tkR (rst s2 (Int.toNat (posR s2 (tkR (rst s2 (Int.toNat (posR s2 (tkR (zzb0 s s2 a b n l i) 1)))) 1)))) (Int.toNat (oneV (rst s2 (Int.toNat (posR s2 (tkR (zzb0 s s2 a b n l i) 1)))))))
noncomputable def zzb2 (s : ByteArray) (s2 : ByteArray) (a : Int) (b : Bool) (n : Int) (l : List ImT) (i : Int) := (tkS (rst s2 (Int.toNat (posR s2 (tkR (rst s2 (Int.toNat a)) 1)))) (Int.toNat (oneV (rst s2 (Int.toNat a)))))
noncomputable def zzb3 (s : ByteArray) (s2 : ByteArray) (a : Int) (b : Bool) (n : Int) (l : List ImT) (i : Int) := (tkB (rst s2 (Int.toNat (posR s2 (tkR (rst s2 (Int.toNat (posR s2 (tkR (zzb0 s s2 a b n l i) 1)))) 1)))) (tkB (rst s2 (Int.toNat (posR s2 (tkR (zzb0 s s2 a b n l i) 1)))) (tkB (zzb0 s s2 a b n l i) (tkB (rst s2 (Int.toNat (posR s2 (tkR (rst s2 (Int.toNat a)) 1)))) (tkB (rst s2 (Int.toNat a)) b 1) (Int.toNat (oneV (rst s2 (Int.toNat a))))) 1) 1) (Int.toNat (oneV (rst s2 (Int.toNat (posR s2 (tkR (zzb0 s s2 a b n l i) 1)))))))
noncomputable def zzb4 (s : ByteArray) (s2 : ByteArray) (a : Int) (b : Bool) (n : Int) (l : List ImT) (i : Int) := (decide (0 ≤ oneV (rst s2 (Int.toNat (posR s2 (tkR (zzb0 s s2 a b n l i) 1))))) && decide (0 ≤ posR s2 (tkR (rst s2 (Int.toNat (posR s2 (tkR (zzb0 s s2 a b n l i) 1)))) 1)) && decide (posR s2 (tkR (rst s2 (Int.toNat (posR s2 (tkR (zzb0 s s2 a b n l i) 1)))) 1) ≤ (↑(ByteArray.size s2) : Int)) && decide (ByteArray.size s2 ≤ 2000000))
noncomputable def zzb5 (s : ByteArray) (s2 : ByteArray) (a : Int) (b : Bool) (n : Int) (l : List ImT) (i : Int) := (tkS (rst s2 (Int.toNat (posR s2 (tkR (rst s2 (Int.toNat (posR s2 (tkR (zzb0 s s2 a b n l i) 1)))) 1)))) (Int.toNat (oneV (rst s2 (Int.toNat (posR s2 (tkR (zzb0 s s2 a b n l i) 1)))))))
noncomputable def zzb6 (s : ByteArray) (s2 : ByteArray) (a : Int) (b : Bool) (n : Int) (l : List ImT) (i : Int) := (rst s2 (Int.toNat (posR s2 (zzb1 s s2 a b n l i))))
noncomputable def zzb7 (s : ByteArray) (s2 : ByteArray) (a : Int) (b : Bool) (n : Int) (l : List ImT) (i : Int) := (decide (bits BinOp.and IntKind.i64 (oneV (zzb0 s s2 a b n l i)) 2 > 0))
theorem r_sgi_eq (s : ByteArray) (s2 : ByteArray) (a : Int) (b : Bool) (n : Int) (l : List ImT) (i : Int) : r_sgi brC s s2 a b n l i =
 brC (decide (i < n))
 (brC (!b)
 (brC (decide (0 ≤ a) && decide (a ≤ (↑(ByteArray.size s2) : Int)) && decide (ByteArray.size s2 ≤ 2000000))
 (brC (decide (0 ≤ oneV (rst s2 (Int.toNat a))) && decide (0 ≤ posR s2 (tkR (rst s2 (Int.toNat a)) 1)) && decide (posR s2 (tkR (rst s2 (Int.toNat a)) 1) ≤ (↑(ByteArray.size s2) : Int)) && decide (ByteArray.size s2 ≤ 2000000))
 (brC (decide (ByteArray.size (zzb2 s s2 a b n l i) ≤ 2000) && holds (isKy (zzb2 s s2 a b n l i)))
 (brC (decide (0 ≤ posR s2 (tkR (rst s2 (Int.toNat (posR s2 (tkR (rst s2 (Int.toNat a)) 1)))) (Int.toNat (oneV (rst s2 (Int.toNat a)))))) && decide (posR s2 (tkR (rst s2 (Int.toNat (posR s2 (tkR (rst s2 (Int.toNat a)) 1)))) (Int.toNat (oneV (rst s2 (Int.toNat a))))) ≤ (↑(ByteArray.size s2) : Int)) && decide (ByteArray.size s2 ≤ 2000000))
 (brC (decide (bits BinOp.and IntKind.i64 (oneV (zzb0 s s2 a b n l i)) 1 > 0))
 (brC (decide (0 ≤ posR s2 (tkR (zzb0 s s2 a b n l i) 1)) && decide (posR s2 (tkR (zzb0 s s2 a b n l i) 1) ≤ (↑(ByteArray.size s2) : Int)) && decide (ByteArray.size s2 ≤ 2000000))
 (brC (zzb4 s s2 a b n l i)
 (brC (zzb7 s s2 a b n l i)
 (brC (decide (0 ≤ posR s2 (zzb1 s s2 a b n l i)) && decide (posR s2 (zzb1 s s2 a b n l i) ≤ (↑(ByteArray.size s2) : Int)) && decide (ByteArray.size s2 ≤ 2000000))
 (brC (decide (0 ≤ oneV (zzb6 s s2 a b n l i)) && decide (0 ≤ posR s2 (tkR (zzb6 s s2 a b n l i) 1)) && decide (posR s2 (tkR (zzb6 s s2 a b n l i) 1) ≤ (↑(ByteArray.size s2) : Int)) && decide (ByteArray.size s2 ≤ 2000000))
 (brC (Nat.beq (List.length [PV.str (Prod.fst (deKy (zzb2 s s2 a b n l i))), PV.sl (List.length (Prod.snd (deKy (zzb2 s s2 a b n l i)))) (List.map PV.str (Prod.snd (deKy (zzb2 s s2 a b n l i)))), PV.bool (decide (bits BinOp.and IntKind.i64 (oneV (zzb0 s s2 a b n l i)) 1 > 0)), PV.str (zzb5 s s2 a b n l i), PV.bool (zzb7 s s2 a b n l i), PV.str (tkS (rst s2 (Int.toNat (posR s2 (tkR (zzb6 s s2 a b n l i) 1)))) (Int.toNat (oneV (zzb6 s s2 a b n l i))))]) (1 * 6) && (decide (List.length l + 1 ≤ 140737488351232) && decide ((List.length l + 1) * 88 ≤ 140737488355328)))
 (some (Sum.inl [(AV.pv (PV.str s), none), (AV.ptr 16384 0, some (Ob.box [CV.pv (PV.str s2), CV.pv (PV.int IntKind.i64 (posR s2 (tkR (rst s2 (Int.toNat (posR s2 (tkR (zzb6 s s2 a b n l i) 1)))) (Int.toNat (oneV (zzb6 s s2 a b n l i)))))), CV.pv (PV.bool (tkB (rst s2 (Int.toNat (posR s2 (tkR (zzb6 s s2 a b n l i) 1)))) (tkB (zzb6 s s2 a b n l i) (zzb3 s s2 a b n l i) 1) (Int.toNat (oneV (zzb6 s s2 a b n l i)))))])), (AV.pv (PV.int IntKind.i64 n), none), (AV.own 24576, some (Ob.lst 6 37 (List.length l + 1) (encIm l ++ [PV.str (Prod.fst (deKy (zzb2 s s2 a b n l i))), PV.sl (List.length (Prod.snd (deKy (zzb2 s s2 a b n l i)))) (List.map PV.str (Prod.snd (deKy (zzb2 s s2 a b n l i)))), PV.bool (decide (bits BinOp.and IntKind.i64 (oneV (zzb0 s s2 a b n l i)) 1 > 0)), PV.str (zzb5 s s2 a b n l i), PV.bool (zzb7 s s2 a b n l i), PV.str (tkS (rst s2 (Int.toNat (posR s2 (tkR (zzb6 s s2 a b n l i) 1)))) (Int.toNat (oneV (zzb6 s s2 a b n l i))))]) false)), (AV.pv (PV.int IntKind.i64 (IntKind.wrap IntKind.i64 (i + 1))), none)]))
 (none))
 (none))
 (none))
 (brC (Nat.beq (List.length [PV.str (Prod.fst (deKy (zzb2 s s2 a b n l i))), PV.sl (List.length (Prod.snd (deKy (zzb2 s s2 a b n l i)))) (List.map PV.str (Prod.snd (deKy (zzb2 s s2 a b n l i)))), PV.bool (decide (bits BinOp.and IntKind.i64 (oneV (zzb0 s s2 a b n l i)) 1 > 0)), PV.str (zzb5 s s2 a b n l i), PV.bool (zzb7 s s2 a b n l i), PV.str { data := #[] }]) (1 * 6) && (decide (List.length l + 1 ≤ 140737488351232) && decide ((List.length l + 1) * 88 ≤ 140737488355328)))
 (some (Sum.inl [(AV.pv (PV.str s), none), (AV.ptr 16384 0, some (Ob.box [CV.pv (PV.str s2), CV.pv (PV.int IntKind.i64 (posR s2 (zzb1 s s2 a b n l i))), CV.pv (PV.bool (zzb3 s s2 a b n l i))])), (AV.pv (PV.int IntKind.i64 n), none), (AV.own 24576, some (Ob.lst 6 37 (List.length l + 1) (encIm l ++ [PV.str (Prod.fst (deKy (zzb2 s s2 a b n l i))), PV.sl (List.length (Prod.snd (deKy (zzb2 s s2 a b n l i)))) (List.map PV.str (Prod.snd (deKy (zzb2 s s2 a b n l i)))), PV.bool (decide (bits BinOp.and IntKind.i64 (oneV (zzb0 s s2 a b n l i)) 1 > 0)), PV.str (zzb5 s s2 a b n l i), PV.bool (zzb7 s s2 a b n l i), PV.str { data := #[] }]) false)), (AV.pv (PV.int IntKind.i64 (IntKind.wrap IntKind.i64 (i + 1))), none)]))
 (none)))
 (none))
 (none))
 (brC (zzb7 s s2 a b n l i)
 (brC (decide (0 ≤ posR s2 (tkR (zzb0 s s2 a b n l i) 1)) && decide (posR s2 (tkR (zzb0 s s2 a b n l i) 1) ≤ (↑(ByteArray.size s2) : Int)) && decide (ByteArray.size s2 ≤ 2000000))
 (brC (zzb4 s s2 a b n l i)
 (brC (Nat.beq (List.length [PV.str (Prod.fst (deKy (zzb2 s s2 a b n l i))), PV.sl (List.length (Prod.snd (deKy (zzb2 s s2 a b n l i)))) (List.map PV.str (Prod.snd (deKy (zzb2 s s2 a b n l i)))), PV.bool (decide (bits BinOp.and IntKind.i64 (oneV (zzb0 s s2 a b n l i)) 1 > 0)), PV.str { data := #[] }, PV.bool (zzb7 s s2 a b n l i), PV.str (zzb5 s s2 a b n l i)]) (1 * 6) && (decide (List.length l + 1 ≤ 140737488351232) && decide ((List.length l + 1) * 88 ≤ 140737488355328)))
 (some (Sum.inl [(AV.pv (PV.str s), none), (AV.ptr 16384 0, some (Ob.box [CV.pv (PV.str s2), CV.pv (PV.int IntKind.i64 (posR s2 (zzb1 s s2 a b n l i))), CV.pv (PV.bool (zzb3 s s2 a b n l i))])), (AV.pv (PV.int IntKind.i64 n), none), (AV.own 24576, some (Ob.lst 6 37 (List.length l + 1) (encIm l ++ [PV.str (Prod.fst (deKy (zzb2 s s2 a b n l i))), PV.sl (List.length (Prod.snd (deKy (zzb2 s s2 a b n l i)))) (List.map PV.str (Prod.snd (deKy (zzb2 s s2 a b n l i)))), PV.bool (decide (bits BinOp.and IntKind.i64 (oneV (zzb0 s s2 a b n l i)) 1 > 0)), PV.str { data := #[] }, PV.bool (zzb7 s s2 a b n l i), PV.str (zzb5 s s2 a b n l i)]) false)), (AV.pv (PV.int IntKind.i64 (IntKind.wrap IntKind.i64 (i + 1))), none)]))
 (none))
 (none))
 (none))
 (brC (Nat.beq (List.length [PV.str (Prod.fst (deKy (zzb2 s s2 a b n l i))), PV.sl (List.length (Prod.snd (deKy (zzb2 s s2 a b n l i)))) (List.map PV.str (Prod.snd (deKy (zzb2 s s2 a b n l i)))), PV.bool (decide (bits BinOp.and IntKind.i64 (oneV (zzb0 s s2 a b n l i)) 1 > 0)), PV.str { data := #[] }, PV.bool (zzb7 s s2 a b n l i), PV.str { data := #[] }]) (1 * 6) && (decide (List.length l + 1 ≤ 140737488351232) && decide ((List.length l + 1) * 88 ≤ 140737488355328)))
 (some (Sum.inl [(AV.pv (PV.str s), none), (AV.ptr 16384 0, some (Ob.box [CV.pv (PV.str s2), CV.pv (PV.int IntKind.i64 (posR s2 (tkR (zzb0 s s2 a b n l i) 1))), CV.pv (PV.bool (tkB (zzb0 s s2 a b n l i) (tkB (rst s2 (Int.toNat (posR s2 (tkR (rst s2 (Int.toNat a)) 1)))) (tkB (rst s2 (Int.toNat a)) b 1) (Int.toNat (oneV (rst s2 (Int.toNat a))))) 1))])), (AV.pv (PV.int IntKind.i64 n), none), (AV.own 24576, some (Ob.lst 6 37 (List.length l + 1) (encIm l ++ [PV.str (Prod.fst (deKy (zzb2 s s2 a b n l i))), PV.sl (List.length (Prod.snd (deKy (zzb2 s s2 a b n l i)))) (List.map PV.str (Prod.snd (deKy (zzb2 s s2 a b n l i)))), PV.bool (decide (bits BinOp.and IntKind.i64 (oneV (zzb0 s s2 a b n l i)) 1 > 0)), PV.str { data := #[] }, PV.bool (zzb7 s s2 a b n l i), PV.str { data := #[] }]) false)), (AV.pv (PV.int IntKind.i64 (IntKind.wrap IntKind.i64 (i + 1))), none)]))
 (none))))
 (none))
 (brC (decide (ByteArray.size (zzb2 s s2 a b n l i) ≤ 2000))
 (brC (decide (0 ≤ posR s2 (tkR (rst s2 (Int.toNat (posR s2 (tkR (rst s2 (Int.toNat a)) 1)))) (Int.toNat (oneV (rst s2 (Int.toNat a)))))) && decide (posR s2 (tkR (rst s2 (Int.toNat (posR s2 (tkR (rst s2 (Int.toNat a)) 1)))) (Int.toNat (oneV (rst s2 (Int.toNat a))))) ≤ (↑(ByteArray.size s2) : Int)) && decide (ByteArray.size s2 ≤ 2000000))
 (brC (decide (bits BinOp.and IntKind.i64 (oneV (zzb0 s s2 a b n l i)) 1 > 0))
 (brC (decide (0 ≤ posR s2 (tkR (zzb0 s s2 a b n l i) 1)) && decide (posR s2 (tkR (zzb0 s s2 a b n l i) 1) ≤ (↑(ByteArray.size s2) : Int)) && decide (ByteArray.size s2 ≤ 2000000))
 (brC (zzb4 s s2 a b n l i)
 (brC (zzb7 s s2 a b n l i)
 (brC (decide (0 ≤ posR s2 (zzb1 s s2 a b n l i)) && decide (posR s2 (zzb1 s s2 a b n l i) ≤ (↑(ByteArray.size s2) : Int)) && decide (ByteArray.size s2 ≤ 2000000))
 (brC (decide (0 ≤ oneV (zzb6 s s2 a b n l i)) && decide (0 ≤ posR s2 (tkR (zzb6 s s2 a b n l i) 1)) && decide (posR s2 (tkR (zzb6 s s2 a b n l i) 1) ≤ (↑(ByteArray.size s2) : Int)) && decide (ByteArray.size s2 ≤ 2000000))
 (some (Sum.inr (Ex.ret, [(AV.pv (PV.str s), none), (AV.pv PV.nils, none), (AV.pv (PV.bool false), none), (AV.ptr 16384 0, some (Ob.box [CV.pv (PV.str s2), CV.pv (PV.int IntKind.i64 (posR s2 (tkR (rst s2 (Int.toNat (posR s2 (tkR (zzb6 s s2 a b n l i) 1)))) (Int.toNat (oneV (zzb6 s s2 a b n l i)))))), CV.pv (PV.bool (tkB (rst s2 (Int.toNat (posR s2 (tkR (zzb6 s s2 a b n l i) 1)))) (tkB (zzb6 s s2 a b n l i) (zzb3 s s2 a b n l i) 1) (Int.toNat (oneV (zzb6 s s2 a b n l i)))))])), (AV.own 24576, some (Ob.lst 6 37 (List.length l) (encIm l) false))])))
 (none))
 (none))
 (some (Sum.inr (Ex.ret, [(AV.pv (PV.str s), none), (AV.pv PV.nils, none), (AV.pv (PV.bool false), none), (AV.ptr 16384 0, some (Ob.box [CV.pv (PV.str s2), CV.pv (PV.int IntKind.i64 (posR s2 (zzb1 s s2 a b n l i))), CV.pv (PV.bool (zzb3 s s2 a b n l i))])), (AV.own 24576, some (Ob.lst 6 37 (List.length l) (encIm l) false))]))))
 (none))
 (none))
 (brC (zzb7 s s2 a b n l i)
 (brC (decide (0 ≤ posR s2 (tkR (zzb0 s s2 a b n l i) 1)) && decide (posR s2 (tkR (zzb0 s s2 a b n l i) 1) ≤ (↑(ByteArray.size s2) : Int)) && decide (ByteArray.size s2 ≤ 2000000))
 (brC (zzb4 s s2 a b n l i)
 (some (Sum.inr (Ex.ret, [(AV.pv (PV.str s), none), (AV.pv PV.nils, none), (AV.pv (PV.bool false), none), (AV.ptr 16384 0, some (Ob.box [CV.pv (PV.str s2), CV.pv (PV.int IntKind.i64 (posR s2 (zzb1 s s2 a b n l i))), CV.pv (PV.bool (zzb3 s s2 a b n l i))])), (AV.own 24576, some (Ob.lst 6 37 (List.length l) (encIm l) false))])))
 (none))
 (none))
 (some (Sum.inr (Ex.ret, [(AV.pv (PV.str s), none), (AV.pv PV.nils, none), (AV.pv (PV.bool false), none), (AV.ptr 16384 0, some (Ob.box [CV.pv (PV.str s2), CV.pv (PV.int IntKind.i64 (posR s2 (tkR (zzb0 s s2 a b n l i) 1))), CV.pv (PV.bool (tkB (zzb0 s s2 a b n l i) (tkB (rst s2 (Int.toNat (posR s2 (tkR (rst s2 (Int.toNat a)) 1)))) (tkB (rst s2 (Int.toNat a)) b 1) (Int.toNat (oneV (rst s2 (Int.toNat a))))) 1))])), (AV.own 24576, some (Ob.lst 6 37 (List.length l) (encIm l) false))])))))
 (none))
 (none)))
 (none))
 (none))
 (some (Sum.inr (Ex.exit 0, [(AV.pv (PV.str s), none), (AV.bad, none), (AV.bad, none), (AV.ptr 16384 0, some (Ob.box [CV.pv (PV.str s2), CV.pv (PV.int IntKind.i64 a), CV.pv (PV.bool b)])), (AV.own 24576, some (Ob.lst 6 37 (List.length l) (encIm l) false))]))))
 (some (Sum.inr (Ex.exit 0, [(AV.pv (PV.str s), none), (AV.bad, none), (AV.bad, none), (AV.ptr 16384 0, some (Ob.box [CV.pv (PV.str s2), CV.pv (PV.int IntKind.i64 a), CV.pv (PV.bool b)])), (AV.own 24576, some (Ob.lst 6 37 (List.length l) (encIm l) false))]))) := by kernel_rfl
noncomputable def zzc0 (l : List ImT) (s : ByteArray) (i : Int) := (keyV2 (PV.asStr (List.headD (List.drop (Int.toNat i * 6) (encIm l)) PV.nilp)) (asL (PV.sl (PV.slN (List.headD (List.tail (List.drop (Int.toNat i * 6) (encIm l))) PV.nilp)) (PV.slL (List.headD (List.tail (List.drop (Int.toNat i * 6) (encIm l))) PV.nilp)))))
noncomputable def zzc1 (l : List ImT) (s : ByteArray) (i : Int) := (List.tail (List.tail (List.tail (List.drop (Int.toNat i * 6) (encIm l)))))
noncomputable def zzc2 (l : List ImT) (s : ByteArray) (i : Int) := (shortV (zzc0 l s i) ++ litV (IntKind.wrap IntKind.i64 (1 + 2)) 1 ++ (shortV (PV.asStr (List.headD (zzc1 l s i) PV.nilp)) ++ shortV (PV.asStr (List.headD (List.tail (List.tail (zzc1 l s i))) PV.nilp))))
noncomputable def zzc3 (l : List ImT) (s : ByteArray) (i : Int) := (decide (ByteArray.size (PV.asStr (List.headD (List.drop (Int.toNat i * 6) (encIm l)) PV.nilp)) ≤ 1000000) && isL (PV.sl (PV.slN (List.headD (List.tail (List.drop (Int.toNat i * 6) (encIm l))) PV.nilp)) (PV.slL (List.headD (List.tail (List.drop (Int.toNat i * 6) (encIm l))) PV.nilp))))
noncomputable def zzc4 (l : List ImT) (s : ByteArray) (i : Int) := (shortV (zzc0 l s i) ++ litV (IntKind.wrap IntKind.i64 (0 + 2)) 1 ++ ({ data := #[] } ++ shortV (PV.asStr (List.headD (List.tail (List.tail (zzc1 l s i))) PV.nilp))))
theorem r_sput_eq (l : List ImT) (s : ByteArray) (i : Int) : r_sput brC l s i =
 brC (decide (i < (↑(List.length l) : Int)))
 (brC (decide (0 ≤ i) && decide (i < (↑(List.length l) : Int)))
 (brC (Nat.ble 6 (List.length (List.drop (Int.toNat i * 6) (encIm l))) && (PV.isStr (List.headD (List.drop (Int.toNat i * 6) (encIm l)) PV.nilp) && (PV.isSl (List.headD (List.tail (List.drop (Int.toNat i * 6) (encIm l))) PV.nilp) && (PV.isBool (List.headD (List.tail (List.tail (List.drop (Int.toNat i * 6) (encIm l)))) PV.nilp) && (PV.isStr (List.headD (zzc1 l s i) PV.nilp) && (PV.isBool (List.headD (List.tail (zzc1 l s i)) PV.nilp) && (PV.isStr (List.headD (List.tail (List.tail (zzc1 l s i))) PV.nilp) && true && true) && true) && true) && true) && true) && true) && true)
 (brC (PV.asBool (List.headD (List.tail (List.tail (List.drop (Int.toNat i * 6) (encIm l)))) PV.nilp))
 (brC (decide (ByteArray.size (PV.asStr (List.headD (zzc1 l s i) PV.nilp)) ≤ 1000000))
 (brC (PV.asBool (List.headD (List.tail (zzc1 l s i)) PV.nilp))
 (brC (decide (ByteArray.size (PV.asStr (List.headD (List.tail (List.tail (zzc1 l s i))) PV.nilp)) ≤ 1000000))
 (brC (decide (ByteArray.size (shortV (PV.asStr (List.headD (zzc1 l s i) PV.nilp))) + ByteArray.size (shortV (PV.asStr (List.headD (List.tail (List.tail (zzc1 l s i))) PV.nilp))) ≤ 9223372036854775807) && true)
 (brC (zzc3 l s i)
 (brC (decide (ByteArray.size (zzc0 l s i) ≤ 1000000))
 (brC (decide (ByteArray.size (shortV (zzc0 l s i)) + ByteArray.size (litV (IntKind.wrap IntKind.i64 (1 + 2)) 1) ≤ 9223372036854775807) && true)
 (brC (decide (ByteArray.size (shortV (zzc0 l s i) ++ litV (IntKind.wrap IntKind.i64 (1 + 2)) 1) + ByteArray.size (shortV (PV.asStr (List.headD (zzc1 l s i) PV.nilp)) ++ shortV (PV.asStr (List.headD (List.tail (List.tail (zzc1 l s i))) PV.nilp))) ≤ 9223372036854775807) && true)
 (brC (Nat.beq (List.length (bytesP (zzc2 l s i))) (ByteArray.size (zzc2 l s i) * 1) && (decide (ByteArray.size s + ByteArray.size (zzc2 l s i) ≤ 140737488351232) && decide ((ByteArray.size s + ByteArray.size (zzc2 l s i)) * 1 ≤ 140737488355328)))
 (some (Sum.inl [(AV.pv (PV.sl (List.length l) (encIm l)), none), (AV.own 12288, some (Ob.lst 1 1000005 (ByteArray.size s + ByteArray.size (zzc2 l s i)) (bytesP s ++ bytesP (zzc2 l s i)) true)), (AV.pv (PV.int IntKind.i64 (IntKind.wrap IntKind.i64 (i + 1))), none)]))
 (none))
 (none))
 (none))
 (none))
 (none))
 (none))
 (none))
 (brC (zzc3 l s i)
 (brC (decide (ByteArray.size (zzc0 l s i) ≤ 1000000))
 (brC (decide (ByteArray.size (shortV (zzc0 l s i)) + ByteArray.size (litV 1 1) ≤ 9223372036854775807) && true)
 (brC (decide (ByteArray.size (shortV (zzc0 l s i) ++ litV 1 1) + ByteArray.size (shortV (PV.asStr (List.headD (zzc1 l s i) PV.nilp))) ≤ 9223372036854775807) && true)
 (brC (Nat.beq (List.length (bytesP (shortV (zzc0 l s i) ++ litV 1 1 ++ shortV (PV.asStr (List.headD (zzc1 l s i) PV.nilp))))) (ByteArray.size (shortV (zzc0 l s i) ++ litV 1 1 ++ shortV (PV.asStr (List.headD (zzc1 l s i) PV.nilp))) * 1) && (decide (ByteArray.size s + ByteArray.size (shortV (zzc0 l s i) ++ litV 1 1 ++ shortV (PV.asStr (List.headD (zzc1 l s i) PV.nilp))) ≤ 140737488351232) && decide ((ByteArray.size s + ByteArray.size (shortV (zzc0 l s i) ++ litV 1 1 ++ shortV (PV.asStr (List.headD (zzc1 l s i) PV.nilp)))) * 1 ≤ 140737488355328)))
 (some (Sum.inl [(AV.pv (PV.sl (List.length l) (encIm l)), none), (AV.own 12288, some (Ob.lst 1 1000005 (ByteArray.size s + ByteArray.size (shortV (zzc0 l s i) ++ litV 1 1 ++ shortV (PV.asStr (List.headD (zzc1 l s i) PV.nilp)))) (bytesP s ++ bytesP (shortV (zzc0 l s i) ++ litV 1 1 ++ shortV (PV.asStr (List.headD (zzc1 l s i) PV.nilp)))) true)), (AV.pv (PV.int IntKind.i64 (IntKind.wrap IntKind.i64 (i + 1))), none)]))
 (none))
 (none))
 (none))
 (none))
 (none)))
 (none))
 (brC (PV.asBool (List.headD (List.tail (zzc1 l s i)) PV.nilp))
 (brC (decide (ByteArray.size (PV.asStr (List.headD (List.tail (List.tail (zzc1 l s i))) PV.nilp)) ≤ 1000000))
 (brC (decide (0 + ByteArray.size (shortV (PV.asStr (List.headD (List.tail (List.tail (zzc1 l s i))) PV.nilp))) ≤ 9223372036854775807) && true)
 (brC (zzc3 l s i)
 (brC (decide (ByteArray.size (zzc0 l s i) ≤ 1000000))
 (brC (decide (ByteArray.size (shortV (zzc0 l s i)) + ByteArray.size (litV (IntKind.wrap IntKind.i64 (0 + 2)) 1) ≤ 9223372036854775807) && true)
 (brC (decide (ByteArray.size (shortV (zzc0 l s i) ++ litV (IntKind.wrap IntKind.i64 (0 + 2)) 1) + ByteArray.size ({ data := #[] } ++ shortV (PV.asStr (List.headD (List.tail (List.tail (zzc1 l s i))) PV.nilp))) ≤ 9223372036854775807) && true)
 (brC (Nat.beq (List.length (bytesP (zzc4 l s i))) (ByteArray.size (zzc4 l s i) * 1) && (decide (ByteArray.size s + ByteArray.size (zzc4 l s i) ≤ 140737488351232) && decide ((ByteArray.size s + ByteArray.size (zzc4 l s i)) * 1 ≤ 140737488355328)))
 (some (Sum.inl [(AV.pv (PV.sl (List.length l) (encIm l)), none), (AV.own 12288, some (Ob.lst 1 1000005 (ByteArray.size s + ByteArray.size (zzc4 l s i)) (bytesP s ++ bytesP (zzc4 l s i)) true)), (AV.pv (PV.int IntKind.i64 (IntKind.wrap IntKind.i64 (i + 1))), none)]))
 (none))
 (none))
 (none))
 (none))
 (none))
 (none))
 (none))
 (brC (zzc3 l s i)
 (brC (decide (ByteArray.size (zzc0 l s i) ≤ 1000000))
 (brC (decide (ByteArray.size (shortV (zzc0 l s i)) + ByteArray.size (litV 0 1) ≤ 9223372036854775807) && true)
 (brC (decide (ByteArray.size (shortV (zzc0 l s i) ++ litV 0 1) + 0 ≤ 9223372036854775807) && true)
 (brC (Nat.beq (List.length (bytesP (shortV (zzc0 l s i) ++ litV 0 1 ++ { data := #[] }))) (ByteArray.size (shortV (zzc0 l s i) ++ litV 0 1 ++ { data := #[] }) * 1) && (decide (ByteArray.size s + ByteArray.size (shortV (zzc0 l s i) ++ litV 0 1 ++ { data := #[] }) ≤ 140737488351232) && decide ((ByteArray.size s + ByteArray.size (shortV (zzc0 l s i) ++ litV 0 1 ++ { data := #[] })) * 1 ≤ 140737488355328)))
 (some (Sum.inl [(AV.pv (PV.sl (List.length l) (encIm l)), none), (AV.own 12288, some (Ob.lst 1 1000005 (ByteArray.size s + ByteArray.size (shortV (zzc0 l s i) ++ litV 0 1 ++ { data := #[] })) (bytesP s ++ bytesP (shortV (zzc0 l s i) ++ litV 0 1 ++ { data := #[] })) true)), (AV.pv (PV.int IntKind.i64 (IntKind.wrap IntKind.i64 (i + 1))), none)]))
 (none))
 (none))
 (none))
 (none))
 (none))))
 (none))
 (none))
 (some (Sum.inr (Ex.exit 0, [(AV.pv (PV.sl (List.length l) (encIm l)), none), (AV.own 12288, some (Ob.lst 1 1000005 (ByteArray.size s) (bytesP s) true))]))) := by kernel_rfl
theorem q_sput_eq (l : List ImT) : q_sput brC l =
 brC (isIms (PV.sl (List.length l) (encIm l)))
 (brC (!imgsB (asIms (PV.sl (List.length l) (encIm l))))
 (some ((IV.cv (CV.pv (PV.str { data := #[] })), [])))
 (brC (decide (ByteArray.size (litV (↑(List.length l) : Int) 1) ≤ 140737488351232))
 (brC (isIms (pIms l) && imgsB (asIms (pIms l)) && Nat.beq 12288 12288 && Nat.beq (5 + 1000000) 1000005 && isBy (PV.sl (ByteArray.size (litV (↑(List.length l) : Int) 1)) (bytesP (litV (↑(List.length l) : Int) 1))) && holds (ByteArray.size (asBy (PV.sl (ByteArray.size (litV (↑(List.length l) : Int) 1)) (bytesP (litV (↑(List.length l) : Int) 1)))) ≤ 10) && 0 == 0)
 (brC (Nat.beq (List.length (bytesP (imsT (asBy (PV.sl (ByteArray.size (litV (↑(List.length l) : Int) 1)) (bytesP (litV (↑(List.length l) : Int) 1)))) (asIms (pIms l))))) (ByteArray.size (imsT (asBy (PV.sl (ByteArray.size (litV (↑(List.length l) : Int) 1)) (bytesP (litV (↑(List.length l) : Int) 1)))) (asIms (pIms l)))) && Option.isSome (bytesOf (bytesP (imsT (asBy (PV.sl (ByteArray.size (litV (↑(List.length l) : Int) 1)) (bytesP (litV (↑(List.length l) : Int) 1)))) (asIms (pIms l))))) && true)
 (some ((IV.cv (CV.pv (PV.str { data := List.toArray (Option.getD (bytesOf (bytesP (imsT (asBy (PV.sl (ByteArray.size (litV (↑(List.length l) : Int) 1)) (bytesP (litV (↑(List.length l) : Int) 1)))) (asIms (pIms l))))) []) })), [])))
 (none))
 (none))
 (none)))
 (none) := by kernel_rfl
theorem q_sgi_eq (s : ByteArray) : q_sgi brC s =
 brC (decide (0 ≤ 0) && decide (0 ≤ (↑(ByteArray.size s) : Int)) && decide (ByteArray.size s ≤ 2000000))
 (brC (Nat.beq 16384 16384 && Nat.beq 24576 24576 && Nat.beq 37 37 && Nat.beq 0 0 && nilB [] && 0 == 0 && decide (0 ≤ oneV (rst s 0)) && decide (oneV (rst s 0) ≤ 255) && decide (0 ≤ posR s (tkR (rst s 0) 1)) && decide (posR s (tkR (rst s 0) 1) ≤ (↑(ByteArray.size s) : Int)) && holds (ByteArray.size s ≤ 2000000) && Prod.fst (rdNS (Int.toNat (oneV (rst s 0))) (rst s (Int.toNat (posR s (tkR (rst s 0) 1)))) (tkB (rst s 0) false 1) []))
 (brC (Prod.fst (Prod.snd (Prod.snd (rdNS (Int.toNat (oneV (rst s 0))) (rst s (Int.toNat (posR s (tkR (rst s 0) 1)))) (tkB (rst s 0) false 1) []))))
 (some ((IV.tup [IV.cv (CV.pv PV.nils), IV.cv (CV.pv (PV.bool false))], [])))
 (brC (isIms (PV.sl (List.length (Prod.snd (Prod.snd (Prod.snd (rdNS (Int.toNat (oneV (rst s 0))) (rst s (Int.toNat (posR s (tkR (rst s 0) 1)))) (tkB (rst s 0) false 1) []))))) (encIm (Prod.snd (Prod.snd (Prod.snd (rdNS (Int.toNat (oneV (rst s 0))) (rst s (Int.toNat (posR s (tkR (rst s 0) 1)))) (tkB (rst s 0) false 1) [])))))))
 (brC (!ByteArray.toList (putI (asIms (PV.sl (List.length (Prod.snd (Prod.snd (Prod.snd (rdNS (Int.toNat (oneV (rst s 0))) (rst s (Int.toNat (posR s (tkR (rst s 0) 1)))) (tkB (rst s 0) false 1) []))))) (encIm (Prod.snd (Prod.snd (Prod.snd (rdNS (Int.toNat (oneV (rst s 0))) (rst s (Int.toNat (posR s (tkR (rst s 0) 1)))) (tkB (rst s 0) false 1) [])))))))) == ByteArray.toList s)
 (some ((IV.tup [IV.cv (CV.pv PV.nils), IV.cv (CV.pv (PV.bool false))], [])))
 (brC (ByteArray.toList s == [])
 (some ((IV.tup [IV.cv (CV.pv PV.nils), IV.cv (CV.pv (PV.bool false))], [])))
 (some ((IV.tup [IV.cv (CV.lst 6 37 (List.length (Prod.snd (Prod.snd (Prod.snd (rdNS (Int.toNat (oneV (rst s 0))) (rst s (Int.toNat (posR s (tkR (rst s 0) 1)))) (tkB (rst s 0) false 1) []))))) (encIm (Prod.snd (Prod.snd (Prod.snd (rdNS (Int.toNat (oneV (rst s 0))) (rst s (Int.toNat (posR s (tkR (rst s 0) 1)))) (tkB (rst s 0) false 1) []))))) false), IV.cv (CV.pv (PV.bool true))], [])))))
 (none)))
 (brC (Nat.beq 16384 16384 && Nat.beq 24576 24576 && Nat.beq 37 37 && Nat.beq 0 0 && nilB [] && 0 == 0 && decide (0 ≤ oneV (rst s 0)) && decide (oneV (rst s 0) ≤ 255) && decide (0 ≤ posR s (tkR (rst s 0) 1)) && decide (posR s (tkR (rst s 0) 1) ≤ (↑(ByteArray.size s) : Int)) && holds (ByteArray.size s ≤ 2000000))
 (some ((IV.tup [IV.cv (CV.pv PV.nils), IV.cv (CV.pv (PV.bool false))], [])))
 (none)))
 (none) := by kernel_rfl
theorem q_stake_eq (s : ByteArray) (a : Int) (b : Bool) (n : Int) : q_stake brC s a b n =
 brC (decide (n > IntKind.wrap IntKind.i64 ((↑(ByteArray.size s) : Int) - a)))
 (some ((IV.cv (CV.pv (PV.str { data := #[] })), [[CV.pv (PV.str s), CV.pv (PV.int IntKind.i64 a), CV.pv (PV.bool true)]])))
 (brC (decide (0 ≤ IntKind.wrap IntKind.i64 (IntKind.wrap IntKind.i64 (a + n) - n)) && decide (IntKind.wrap IntKind.i64 (IntKind.wrap IntKind.i64 (a + n) - n) ≤ IntKind.wrap IntKind.i64 (a + n)) && decide (IntKind.wrap IntKind.i64 (a + n) ≤ (↑(ByteArray.size s) : Int)) && true && true)
 (some ((IV.cv (CV.pv (PV.str (ByteArray.extract s (Int.toNat (IntKind.wrap IntKind.i64 (IntKind.wrap IntKind.i64 (a + n) - n))) (Int.toNat (IntKind.wrap IntKind.i64 (a + n)))))), [[CV.pv (PV.str s), CV.pv (PV.int IntKind.i64 (IntKind.wrap IntKind.i64 (a + n))), CV.pv (PV.bool b)]])))
 (none)) := by kernel_rfl
theorem q_snum_eq (s : ByteArray) (a : Int) (b : Bool) : q_snum brC s a b =
 brC (decide (0 ≤ 1) && decide (0 ≤ a) && decide (a ≤ (↑(ByteArray.size s) : Int)) && decide (ByteArray.size s ≤ 2000000))
 (brC (ByteArray.toList (tkS (rst s (Int.toNat a)) 1) == [])
 (some ((IV.cv (CV.pv (PV.int IntKind.i64 (Int.ofNat 0))), [[CV.pv (PV.str s), CV.pv (PV.int IntKind.i64 (posR s (tkR (rst s (Int.toNat a)) 1))), CV.pv (PV.bool (tkB (rst s (Int.toNat a)) b 1))]])))
 (brC (decide (0 ≤ 0) && decide (0 < (↑(ByteArray.size (tkS (rst s (Int.toNat a)) 1)) : Int)) && true)
 (some ((IV.cv (CV.pv (PV.int IntKind.i64 (IntKind.wrap IntKind.i64 (↑(UInt8.toNat (List.getD (Array.toList (ByteArray.data (tkS (rst s (Int.toNat a)) 1))) 0 0)) : Int)))), [[CV.pv (PV.str s), CV.pv (PV.int IntKind.i64 (posR s (tkR (rst s (Int.toNat a)) 1))), CV.pv (PV.bool (tkB (rst s (Int.toNat a)) b 1))]])))
 (none)))
 (none) := by kernel_rfl
end
section
open Go.RowKit
set_option linter.unusedVariables false
set_option linter.unusedSimpArgs false
set_option maxRecDepth 100000
theorem ext_extK (d : ByteArray) (i j k l : Nat) (h : i + l ≤ j) : (d.extract i j).extract k l = d.extract (i + k) (i + l) := by
  rw [ByteArray.extract_extract, Nat.min_eq_left h]
theorem rst_size {s : ByteArray} {k : Nat} (h : k ≤ s.size) : (rst s k).size = s.size - k := by
  unfold rst
  rw [ByteArray.size_extract]
  omega
theorem rst_zero (s : ByteArray) : rst s 0 = s := by
  unfold rst
  exact ByteArray.extract_zero_size
theorem rst_tkS {s : ByteArray} {k n : Nat} (h : k + n ≤ s.size) : tkS (rst s k) n = s.extract k (k + n) := by
  unfold tkS
  rw [if_pos (by rw [rst_size (by omega)]; omega)]
  unfold rst
  rw [ext_extK _ _ _ _ _ h, Nat.add_zero]
theorem rst_tkR {s : ByteArray} {k n : Nat} (h : k + n ≤ s.size) : tkR (rst s k) n = rst s (k + n) := by
  unfold tkR
  rw [if_pos (by rw [rst_size (by omega)]; omega), rst_size (by omega)]
  unfold rst
  rw [ext_extK _ _ _ _ _ (by omega), show k + (s.size - k) = s.size by omega]
theorem rst_tkR0 {s : ByteArray} {k n : Nat} (hk : k ≤ s.size) (h : ¬ k + n ≤ s.size) : tkR (rst s k) n = rst s k := by
  unfold tkR
  rw [if_neg (by rw [rst_size hk]; omega)]
theorem posR_rst {s : ByteArray} {k : Nat} (h : k ≤ s.size) : posR s (rst s k) = k := by
  unfold posR
  rw [rst_size h, show s.size - (s.size - k) = k by omega]
theorem rst_pos {s : ByteArray} {k : Nat} (hk : k ≤ s.size) (n : Nat) : ∃ j : Nat, j ≤ s.size ∧ posR s (tkR (rst s k) n) = j ∧ tkR (rst s k) n = rst s j := by
  by_cases h : k + n ≤ s.size
  · exact ⟨k + n, h, by rw [rst_tkR h, posR_rst h], rst_tkR h⟩
  · exact ⟨k, hk, by rw [rst_tkR0 hk h, posR_rst hk], rst_tkR0 hk h⟩
theorem ok_stake : EntryOk Tryz.prog 11 E_stake := entry_of mix (tab := []) trivial (lp := []) (LO := LO0) ⟨Tryz.func11, by kernel_rfl, by kernel_rfl⟩ (by kernel_rfl) fun ivs res bxs h => by
  unfold E_stake at h
  split at h
  · rename_i s a b n
    obtain ⟨hc, he⟩ := pick1 h
    cases he
    obtain ⟨hc, k3⟩ := andE hc
    obtain ⟨hc, k2⟩ := andE hc
    obtain ⟨k0, k1⟩ := andE hc
    have k0 := of_decide_eq_true k0
    have k1 := of_decide_eq_true k1
    have k2 := of_decide_eq_true k2
    have k3 := of_decide_eq_true k3
    obtain ⟨k, rfl⟩ : ∃ k : Nat, a = (k : Int) := ⟨a.toNat, by omega⟩
    obtain ⟨m, rfl⟩ : ∃ m : Nat, n = (m : Int) := ⟨n.toNat, by omega⟩
    have hk : k ≤ s.size := by omega
    refine ⟨noLoop (by kernel_rfl), (q_stake_eq s k b m).trans ?_⟩
    have w1 : IntKind.wrap .i64 ((s.size : Int) - (k : Int)) = (s.size : Int) - (k : Int) := wrapI (by omega) (by omega)
    rw [Int.toNat_natCast, Int.toNat_natCast, w1]
    by_cases hm : k + m ≤ s.size
    · have w2 : IntKind.wrap .i64 ((k : Int) + (m : Int)) = ((k + m : Nat) : Int) := by rw [wrapI (by omega) (by omega)]; omega
      have w3 : IntKind.wrap .i64 (((k + m : Nat) : Int) - (m : Int)) = (k : Int) := by rw [wrapI (by omega) (by omega)]; omega
      have hb : tkB (rst s k) b m = b := by unfold tkB; rw [if_pos (by rw [rst_size hk]; omega)]
      rw [w2, w3, dF (by omega), rst_tkR hm, posR_rst hm, rst_tkS hm, hb]
      simp (disch := omega) only [dT, Int.toNat_natCast, Bool.and_true]
      rfl
    · have hb : tkB (rst s k) b m = true := by unfold tkB; rw [if_neg (by rw [rst_size hk]; omega)]
      have hS : tkS (rst s k) m = ⟨#[]⟩ := by unfold tkS; rw [if_neg (by rw [rst_size hk]; omega)]
      rw [dT (by omega), rst_tkR0 hk hm, posR_rst hk, hb, hS]
      rfl
  · cases h
theorem ok_keb0 : EntriesOk Tryz.prog keb0 := ⟨ok_stake, trivial⟩
theorem ok_snum : EntryOk Tryz.prog 9 E_snum := entry_of mix ok_keb0 (lp := []) (LO := LO0) ⟨Tryz.func9, by kernel_rfl, by kernel_rfl⟩ (by kernel_rfl) fun ivs res bxs h => by
  unfold E_snum at h
  split at h
  · rename_i s a b
    obtain ⟨hc, he⟩ := pick1 h
    cases he
    obtain ⟨hc, k3⟩ := andE hc
    obtain ⟨k1, k2⟩ := andE hc
    refine ⟨noLoop (by kernel_rfl), (q_snum_eq s a b).trans ?_⟩
    rw [k1, k2, k3]
    by_cases h1 : 1 ≤ (rst s a.toNat).size
    · have e1 := tkS1 h1
      have hc := UInt8.toNat_lt ((rst s a.toNat).data.toList.getD 0 0)
      have hz : (tkS (rst s a.toNat) 1).size = 1 := by rw [size_len, e1]; rfl
      have hl : (ByteArray.toList (tkS (rst s a.toNat) 1) == ([] : List UInt8)) = false := by rw [ByteArray.toList_eq, e1]; rfl
      have hv : oneV (rst s a.toNat) = (((rst s a.toNat).data.toList.getD 0 0).toNat : Int) := by
        unfold oneV numV
        rw [e1]
        show (((_ : Nat) + 256 * 0 : Nat) : Int) = _
        omega
      have w1 : IntKind.wrap .i64 (((((tkS (rst s a.toNat) 1).data.toList).getD 0 0).toNat : Nat) : Int) = (((rst s a.toNat).data.toList.getD 0 0).toNat : Int) := by
        rw [e1]
        exact wrapI (by show -9223372036854775808 ≤ (((rst s a.toNat).data.toList.getD 0 0).toNat : Int); omega) (by show (((rst s a.toNat).data.toList.getD 0 0).toNat : Int) ≤ 9223372036854775807; omega)
      rw [hl, w1, hz, hv]
      rfl
    · have e0 := tkS0 h1
      have hl : (ByteArray.toList (tkS (rst s a.toNat) 1) == ([] : List UInt8)) = true := by rw [e0]; exact toList_nil []
      have hv : oneV (rst s a.toNat) = 0 := by unfold oneV numV; rw [e0]; rfl
      rw [hl, hv]
      rfl
  · cases h
theorem ok_keb1 : EntriesOk Tryz.prog keb1 := ⟨ok_simgs, ok_byte, ok_stext, ok_SKeyOf2, trivial⟩
theorem sput_loop (l : List ImT) (h : shIms l) (hB : imgsB l = true) : ∀ (m i : Nat) (s : ByteArray), m + i = l.length → s.size ≤ 10 + 500 * i →
    LoopsTo (rdB brC Tryz.prog keb1 lp_sput LO_sput Tryz.f12 5 []) [aP (pIms l), oR 3 s, aI i] (.exit 0, [aP (pIms l), oR 3 (imsT s (l.drop i))]) := by
  have hl := h.1
  obtain ⟨h240, hall⟩ := imgsB_inv hB
  intro m
  induction m with
  | zero =>
    intro i s hi hs
    rw [List.drop_eq_nil_of_le (by omega)]
    refine .done _ _ ((r_sput_eq l s i).trans ?_)
    dsimp only [zzc4, zzc3, zzc2, zzc1, zzc0]
    rw [dF (by omega)]
    rfl
  | succ m ih =>
    intro i s hi hsz
    have hil : i < l.length := by omega
    have hsi := shIm_at h hil
    have tree := r_sput_eq l s i
    dsimp only [zzc4, zzc3, zzc2, zzc1, zzc0] at tree
    obtain ⟨ip, iw, ii⟩ := imgB_inv (hall l[i] (List.getElem_mem hil))
    have zi := imV_size (hall l[i] (List.getElem_mem hil))
    have zk := keyV2_size l[i].name l[i].subs
    have s1 := shortV_size (keyV2 l[i].name l[i].subs)
    have s2 := shortV_size l[i].was
    have s3 := shortV_size l[i].is
    have sa := ByteArray.size_append (a := s) (b := imV l[i])
    have l0 := litV_size 0 1
    have l1 := litV_size 1 1
    have l2 := litV_size 2 1
    have l3 := litV_size 3 1
    have a0 := ByteArray.size_append (a := shortV (keyV2 l[i].name l[i].subs)) (b := litV 0 1)
    have a1 := ByteArray.size_append (a := shortV (keyV2 l[i].name l[i].subs)) (b := litV 1 1)
    have a2 := ByteArray.size_append (a := shortV (keyV2 l[i].name l[i].subs)) (b := litV 2 1)
    have a3 := ByteArray.size_append (a := shortV (keyV2 l[i].name l[i].subs)) (b := litV 3 1)
    have a4 := ByteArray.size_append (a := shortV l[i].was) (b := shortV l[i].is)
    have a5 : (({ data := #[] } : ByteArray) ++ shortV l[i].is).size = (shortV l[i].is).size := by rw [nil_app]
    have w1 : IntKind.wrap .i64 (1 + 2) = 3 := by decide
    have w2 : IntKind.wrap .i64 (0 + 2) = 2 := by decide
    have hK : (decide (l[i].name.size ≤ 1000000) && isL (PV.sl l[i].subs.length (l[i].subs.map PV.str))) = true := by
      rw [decide_eq_true hsi.1]
      exact isL_mk hsi.2.1
    have this := ih (i + 1) (s ++ imV l[i]) (by omega) (by omega)
    rw [List.drop_eq_getElem_cons hil]
    simp (disch := first | omega | rfl) only [drop_encIm l i hil, asL, asL_mk, Int.toNat_natCast, List.length_cons, List.headD_cons, List.tail_cons, List.drop_zero, List.drop_succ_cons, PV.isStr, PV.asStr, PV.isSl, PV.slN, PV.slL, PV.isInt, PV.asInt, PV.isBool, PV.asBool, ble1, ble2, ble3, ble4, ble5, ble6, blt0, wrap1, Bool.and_true, Bool.true_and] at tree
    cases hh : l[i].had with
    | true =>
      cases hs : l[i].has with
      | true =>
        have hI : imV l[i] = shortV (keyV2 l[i].name l[i].subs) ++ litV 3 1 ++ (shortV l[i].was ++ shortV l[i].is) := by
          rw [imV_eq]
          unfold kindI valsI
          rw [hh, hs]
          simp only [if_true, if_false, Bool.false_eq_true, nil_app, app_nil]
          rfl
        rw [hh, hs, w1, w2, ← hI, bytesP_app s (imV l[i]), ← sa] at tree
        simp (disch := first | omega | rfl) only [dT, hK, Nat.mul_one, Nat.beq_refl, bytesP_len, Bool.and_true, Bool.true_and] at tree
        exact .step _ _ _ tree this
      | false =>
        have hI : imV l[i] = shortV (keyV2 l[i].name l[i].subs) ++ litV 1 1 ++ shortV l[i].was := by
          rw [imV_eq]
          unfold kindI valsI
          rw [hh, hs]
          simp only [if_true, if_false, Bool.false_eq_true, nil_app, app_nil]
          rfl
        rw [hh, hs, w1, w2, ← hI, bytesP_app s (imV l[i]), ← sa] at tree
        simp (disch := first | omega | rfl) only [dT, hK, Nat.mul_one, Nat.beq_refl, bytesP_len, Bool.and_true, Bool.true_and] at tree
        exact .step _ _ _ tree this
    | false =>
      cases hs : l[i].has with
      | true =>
        have hI : imV l[i] = shortV (keyV2 l[i].name l[i].subs) ++ litV 2 1 ++ ({ data := #[] } ++ shortV l[i].is) := by
          rw [imV_eq]
          unfold kindI valsI
          rw [hh, hs]
          simp only [if_true, if_false, Bool.false_eq_true, nil_app, app_nil]
          rfl
        rw [hh, hs, w1, w2, ← hI, bytesP_app s (imV l[i]), ← sa] at tree
        simp (disch := first | omega | rfl) only [dT, hK, Nat.mul_one, Nat.beq_refl, bytesP_len, Bool.and_true, Bool.true_and] at tree
        exact .step _ _ _ tree this
      | false =>
        have hI : imV l[i] = shortV (keyV2 l[i].name l[i].subs) ++ litV 0 1 ++ ({ data := #[] } : ByteArray) := by
          rw [imV_eq]
          unfold kindI valsI
          rw [hh, hs]
          simp only [if_true, if_false, Bool.false_eq_true, nil_app, app_nil]
          rfl
        rw [hh, hs, w1, w2, ← hI, bytesP_app s (imV l[i]), ← sa] at tree
        simp (disch := first | omega | rfl) only [dT, hK, Nat.mul_one, Nat.beq_refl, bytesP_len, Bool.and_true, Bool.true_and] at tree
        exact .step _ _ _ tree this
theorem bytesOf_bytesP (X : ByteArray) : bytesOf (bytesP X) = some X.data.toList := bytesOf_pvB X.data.toList
theorem ok_sput : EntryOk Tryz.prog 12 E_putIms := entry_of mix ok_keb1 (lp := lp_sput) (LO := LO_sput) ⟨Tryz.func12, by kernel_rfl, by kernel_rfl⟩ (by kernel_rfl) fun ivs res bxs h => by
  unfold E_putIms at h
  split at h
  · rename_i p
    obtain ⟨hc, he⟩ := pick1 h
    cases he
    obtain ⟨l, rfl, h_l⟩ := isE_inv hc
    have e_l : asIms (pIms l) = l := asIms_mk l
    have i_l : isIms (pIms l) = true := isIms_mk h_l
    rw [e_l]
    refine ⟨oneLoop 5 (by kernel_rfl) (by kernel_rfl) (by kernel_rfl) ?_, (q_sput_eq l).trans ?_⟩
    · intro ls e ls' hl
      replace hl : pickA (LO_sput_5 ls) = some (e, ls') := hl
      unfold LO_sput_5 at hl
      split at hl
      · rename_i p x e n2 l2 i
        obtain ⟨hc, he⟩ := pick1 hl
        cases he
        obtain ⟨hc, k6⟩ := andE hc
        obtain ⟨hc, k5⟩ := andE hc
        obtain ⟨hc, k4⟩ := andE hc
        obtain ⟨hc, k3⟩ := andE hc
        obtain ⟨hc, k2⟩ := andE hc
        obtain ⟨k0, k1⟩ := andE hc
        obtain ⟨t, rfl, h_t⟩ := isE_inv k0
        obtain ⟨s, q_s, h_s⟩ := isE_inv k4
        injection q_s with qa qb
        subst qa
        subst qb
        have e_t : asIms (pIms t) = t := asIms_mk t
        have e_s : asBy (.sl s.size (bytesP s)) = s := asBy_mk s
        rw [e_t] at k1 ⊢
        rw [e_s] at k5 ⊢
        obtain rfl := Nat.eq_of_beq_eq_true k2
        obtain rfl := Nat.eq_of_beq_eq_true k3
        obtain rfl := eq_of_beq k6
        exact sput_loop t h_t k1 t.length 0 s (by omega) (by have := holds_inv k5; omega)
      · cases hl
    · have i2 : isIms (PV.sl l.length (encIm l)) = true := i_l
      have e2 : asIms (PV.sl l.length (encIm l)) = l := e_l
      have z := litV_size (l.length : Int) 1
      have iB : isBy (.sl (litV (l.length : Int) 1).size (bytesP (litV (l.length : Int) 1))) = true := isBy_mk (show (litV (l.length : Int) 1).size ≤ 100000000 by omega)
      have aB : asBy (.sl (litV (l.length : Int) 1).size (bytesP (litV (l.length : Int) 1))) = litV (l.length : Int) 1 := asBy_mk _
      have q2 : holds ((litV (l.length : Int) 1).size ≤ 10) = true := holds_mk (by omega)
      rw [putI_eq, iB, aB, i2, e2, q2, dT (show (litV (l.length : Int) 1).size ≤ 140737488351232 by omega), bytesOf_bytesP, bytesP_len, Nat.beq_refl]
      cases hB : imgsB l with
      | false =>
        rw [if_neg Bool.false_ne_true]
        rfl
      | true =>
        rw [if_pos rfl]
        simp only [Nat.reduceAdd, Nat.beq_refl, Bool.and_true, Bool.true_and, Option.isSome_some, Option.getD_some, beq_self_eq_true]
        show some (cS (bs (imsT (litV (l.length : Int) 1) l).data.toList), []) = _
        rw [bs_self]
  · cases h
theorem ok_keb2 : EntriesOk Tryz.prog keb2 := ⟨ok_stake, ok_snum, ok_SKeyPl, ok_sput, trivial⟩
theorem bit1 : ∀ k : Nat, k < 256 → decide (bits .and .i64 (k : Int) 1 > 0) = bit k 1 := by
  intro k hk
  have h1 : (BitVec.ofInt 64 (k : Int)).toNat = k := by rw [BitVec.ofInt_natCast, BitVec.toNat_ofNat]; exact Nat.mod_eq_of_lt (by omega)
  have h2 : (BitVec.ofInt 64 (1 : Int)).toNat = 1 := by decide
  have e : bits .and .i64 (k : Int) 1 = ((k % 2 : Nat) : Int) := by
    show IntKind.i64.wrap ((BitVec.ofInt 64 (k : Int) &&& BitVec.ofInt 64 1).toNat : Int) = _
    rw [BitVec.toNat_and, h1, h2, show k &&& 1 = k % 2 from Nat.and_two_pow_sub_one_eq_mod k 1]
    exact wrapI (by omega) (by omega)
  unfold bit
  rw [e]
  rcases Nat.mod_two_eq_zero_or_one k with h | h <;> rw [h] <;> rfl
theorem bit2 : ∀ k : Nat, k < 256 → decide (bits .and .i64 (k : Int) 2 > 0) = bit k 2 := by decide +kernel
theorem oneV_bit1 (r : ByteArray) : decide (bits .and .i64 (oneV r) 1 > 0) = bit (oneV r) 1 := by
  obtain ⟨h1, h2⟩ := oneV_rng r
  have := bit1 (oneV r).toNat (by omega)
  rwa [show (((oneV r).toNat : Nat) : Int) = oneV r by omega] at this
theorem oneV_bit2 (r : ByteArray) : decide (bits .and .i64 (oneV r) 2 > 0) = bit (oneV r) 2 := by
  obtain ⟨h1, h2⟩ := oneV_rng r
  have := bit2 (oneV r).toNat (by omega)
  rwa [show (((oneV r).toNat : Nat) : Int) = oneV r by omega] at this
def Suf (s r : ByteArray) : Prop := ∃ k, k ≤ s.size ∧ r = rst s k
theorem Suf.tk {s r : ByteArray} (h : Suf s r) (n : Nat) : Suf s (tkR r n) := by
  obtain ⟨k, hk, rfl⟩ := h
  obtain ⟨j, h1, _, h3⟩ := rst_pos hk n
  exact ⟨j, h1, h3⟩
theorem Suf.all (s : ByteArray) : Suf s s := ⟨0, Nat.zero_le _, (rst_zero s).symm⟩
theorem pos_suf {s r : ByteArray} (h : Suf s r) : rst s (Int.toNat (posR s r)) = r := by
  obtain ⟨k, hk, rfl⟩ := h
  rw [posR_rst hk, Int.toNat_natCast]
theorem posR_nn (s r : ByteArray) : decide (0 ≤ posR s r) = true := decide_eq_true (Int.natCast_nonneg _)
theorem posR_le (s r : ByteArray) : decide (posR s r ≤ (s.size : Int)) = true := decide_eq_true (by unfold posR; omega)
theorem oneV_nn (r : ByteArray) : decide (0 ≤ oneV r) = true := decide_eq_true (oneV_rng r).1
theorem sgi_step (s s2 r : ByteArray) (n : Int) (l : List ImT) (i : Nat) (hr : Suf s2 r) (hs2 : s2.size ≤ 2000000) (hl : l.length ≤ 300) (hi : (i : Int) < n) (hi2 : i ≤ 300) :
    rdB brC Tryz.prog keb2 lp_sgi LO_sgi Tryz.f4 5 [] [aS s, aSr 4 s2 (posR s2 r) false, aI n, aFs 6 l, aI i] = some (bif holds (isKy (t1S r)) then .inl [aS s, aSr 4 s2 (posR s2 (rd1 r false).r) (rd1 r false).b, aI n, aFs 6 (l ++ [(rd1 r false).im]), aI ((i + 1 : Nat) : Int)] else .inr (.ret, [aS s, aP .nils, aB false, aSr 4 s2 (posR s2 (rd1 r false).r) (rd1 r false).b, aFs 6 l])) := by
  have tree := r_sgi_eq s s2 (posR s2 r) false n l i
  dsimp only [zzb7, zzb6, zzb5, zzb4, zzb3, zzb2, zzb1, zzb0] at tree
  have z7 : decide ((tkS (tkR r 1) (oneV r).toNat).size ≤ 2000) = true := decide_eq_true (by have := t1S_sz r; unfold t1S at this; omega)
  have y1 : decide (s2.size ≤ 2000000) = true := decide_eq_true hs2
  have y2 : decide (l.length + 1 ≤ 140737488351232) = true := decide_eq_true (by omega)
  have y3 : decide ((l.length + 1) * 88 ≤ 140737488355328) = true := decide_eq_true (by omega)
  have y4 : ∀ a b c d e f : PV, Nat.beq (List.length [a, b, c, d, e, f]) (1 * 6) = true := fun _ _ _ _ _ _ => rfl
  rw [dT hi] at tree
  simp (disch := (repeat (first | assumption | refine Suf.tk ?_ _))) only [pos_suf, posR_nn, posR_le, oneV_nn, oneV_bit1, oneV_bit2, z7, y1, y2, y3, y4, wrap1, Bool.and_true, Bool.true_and, Bool.not_false] at tree
  have w1 : IntKind.wrap .i64 ((i : Int) + 1) = ((i + 1 : Nat) : Int) := by rw [wrapI (by omega) (by omega)]; omega
  try rw [w1] at tree
  refine tree.trans ?_
  unfold aFs
  rw [encIm_app, List.length_append, encIm_one, List.length_singleton]
  unfold rd1 kName kSubs
  simp only [flI, b3, t1B, t1S, r3, t1R]
  clear tree z7 y1 y2 y3 y4
  cases hk : holds (isKy (tkS (tkR r 1) (oneV r).toNat)) <;> cases h1 : bit (oneV (tkR (tkR r 1) (oneV r).toNat)) 1 <;> cases h2 : bit (oneV (tkR (tkR r 1) (oneV r).toNat)) 2 <;> simp only [Bool.not_false, Bool.and_true, Bool.and_false, brC, cond_true, cond_false] <;> rfl
theorem Suf.t1 {s r : ByteArray} (h : Suf s r) : Suf s (t1R r) := Suf.tk (Suf.tk h _) _
theorem Suf.r3 {s r : ByteArray} (h : Suf s r) : Suf s (Go.Proofs.YtlenmjklpiccdaaGreatDoor.r3 r) := Suf.tk (Suf.t1 h) _
theorem Suf.rd1 {s r : ByteArray} (h : Suf s r) (b : Bool) : Suf s (Go.Proofs.YtlenmjklpiccdaaGreatDoor.rd1 r b).r := by
  have a := Suf.r3 h
  have c := Suf.t1 a
  have d := Suf.t1 c
  unfold Go.Proofs.YtlenmjklpiccdaaGreatDoor.rd1
  dsimp only
  cases bit (flI r) 1 <;> cases bit (flI r) 2 <;> simp only [cond_true, cond_false]
  · exact a
  · exact c
  · exact c
  · exact d
noncomputable abbrev sgR (s s2 : ByteArray) (X : Bool × ByteArray × Bool × List ImT) : Ex × LS := if X.1 = true then (.exit 0, [aS s, aX, aX, aSr 4 s2 (posR s2 X.2.1) X.2.2.1, aFs 6 X.2.2.2]) else (.ret, [aS s, aP .nils, aB false, aSr 4 s2 (posR s2 X.2.1) X.2.2.1, aFs 6 X.2.2.2])
theorem sgi_loop (s s2 : ByteArray) (n : Nat) (hs2 : s2.size ≤ 2000000) (hn : n ≤ 255) : ∀ (m i : Nat) (r : ByteArray) (b : Bool) (l : List ImT), m + i = n → Suf s2 r → l.length ≤ i →
    LoopsTo (rdB brC Tryz.prog keb2 lp_sgi LO_sgi Tryz.f4 5 []) [aS s, aSr 4 s2 (posR s2 r) b, aI n, aFs 6 l, aI i] (sgR s s2 (rdNS m r b l)) := by
  intro m
  induction m with
  | zero =>
    intro i r b l hm hr hl
    unfold rdNS sgR
    dsimp only
    rw [if_pos rfl]
    refine .done _ _ ((r_sgi_eq s s2 (posR s2 r) b n l i).trans ?_)
    dsimp only [zzb7, zzb6, zzb5, zzb4, zzb3, zzb2, zzb1, zzb0]
    rw [dF (by omega)]
    rfl
  | succ m ih =>
    intro i r b l hm hr hl
    unfold rdNS
    cases b with
    | true =>
      rw [cond_true]
      unfold sgR
      dsimp only
      rw [if_pos rfl]
      refine .done _ _ ((r_sgi_eq s s2 (posR s2 r) true n l i).trans ?_)
      dsimp only [zzb7, zzb6, zzb5, zzb4, zzb3, zzb2, zzb1, zzb0]
      rw [dT (show (i : Int) < (n : Int) by omega)]
      rfl
    | false =>
      rw [cond_false]
      have st := sgi_step s s2 r n l i hr hs2 (by omega) (by omega) (by omega)
      cases hk : holds (isKy (t1S r)) with
      | true =>
        rw [hk] at st
        rw [cond_true]
        have := ih (i + 1) (rd1 r false).r (rd1 r false).b (l ++ [(rd1 r false).im]) (by omega) (hr.rd1 false) (by rw [List.length_append, List.length_singleton]; omega)
        exact .step _ _ _ st this
      | false =>
        rw [hk] at st
        rw [cond_false]
        unfold sgR
        dsimp only
        rw [if_neg Bool.false_ne_true]
        exact .done _ _ st
theorem rdNS_sh : ∀ (m : Nat) (r : ByteArray) (b : Bool) (l : List ImT), (∀ x ∈ l, shIm x) → (∀ x ∈ (rdNS m r b l).2.2.2, shIm x) ∧ (rdNS m r b l).2.2.2.length ≤ l.length + m
  | 0, r, b, l, h => ⟨h, Nat.le_refl _⟩
  | m + 1, r, b, l, h => by
    unfold rdNS
    cases b with
    | true => exact ⟨h, by rw [cond_true]; dsimp only; omega⟩
    | false =>
      rw [cond_false]
      cases holds (isKy (t1S r)) with
      | true =>
        rw [cond_true]
        obtain ⟨h1, h2⟩ := rdNS_sh m (rd1 r false).r (rd1 r false).b (l ++ [(rd1 r false).im]) fun x hx => by
          rcases List.mem_append.1 hx with hx | hx
          · exact h x hx
          · rw [List.mem_singleton.1 hx]; exact rd1_sh r false
        rw [List.length_append, List.length_singleton] at h2
        exact ⟨h1, by omega⟩
      | false => exact ⟨h, by rw [cond_false]; dsimp only; omega⟩
theorem key_im (i : ImT) (r : ByteArray) (h : imgB i = true) : holds (isKy (t1S (imV i ++ r))) = true := by
  obtain ⟨hp, hw, hi⟩ := imgB_inv h
  have hke : keyV2 i.name i.subs = bs (keyL i.name i.subs) := by rw [keyV2_eq, if_pos hp]
  have hkz : (keyV2 i.name i.subs).size ≤ 255 := by
    rw [hke, bs_len]
    obtain ⟨h1, h2⟩ := plcB_inv hp
    obtain ⟨h3, h4⟩ := subsB_inv h2
    have h6 := nameB_le h1
    have h5 := encL_small i.subs h3 h4
    rw [size_len] at h6
    unfold keyL
    rw [List.length_append, List.length_cons]
    omega
  have e : imV i ++ r = shortV (keyV2 i.name i.subs) ++ (litV (kindI i) 1 ++ (valsI i ++ r)) := by
    rw [imV_eq, ByteArray.append_assoc, ByteArray.append_assoc]
  rw [e, (t1_short _ _ hkz).1, hke]
  exact holds_mk ⟨(i.name, i.subs), bs_data _, hp⟩
theorem rdNS_ims : ∀ (l pre : List ImT) (r : ByteArray), (∀ i ∈ l, imgB i = true) → rdNS l.length (imsT ⟨#[]⟩ l ++ r) false pre = (true, r, false, pre ++ l)
  | [], pre, r, _ => by
    unfold imsT
    rw [nil_app, List.append_nil]
    rfl
  | x :: t, pre, r, h => by
    have ih := rdNS_ims t (pre ++ [x]) r fun i hi => h i (List.mem_cons_of_mem _ hi)
    have e : imsT ⟨#[]⟩ (x :: t) ++ r = imV x ++ (imsT ⟨#[]⟩ t ++ r) := by
      rw [show imsT ⟨#[]⟩ (x :: t) = imsT (⟨#[]⟩ ++ imV x) t from rfl, nil_app, imsT_app, ByteArray.append_assoc]
    have hx := h x (List.mem_cons_self ..)
    rw [e, List.length_cons]
    unfold rdNS
    rw [cond_false, key_im x _ hx, cond_true, rd1_im x _ hx]
    dsimp only
    rw [ih, List.append_assoc]
    rfl
theorem putS_read {xs : List ImT} (h : imgsB xs = true) : rdNS xs.length (tkR (putI xs) 1) false [] = (true, ⟨#[]⟩, false, xs) := by
  obtain ⟨h240, hall⟩ := imgsB_inv h
  have e : putI xs = litV (xs.length : Int) 1 ++ (imsT ⟨#[]⟩ xs ++ ⟨#[]⟩) := by rw [putI_eq, if_pos h, imsT_app, app_nil]
  rw [e, tkR_app _ _ (litV_size _ _).symm, rdNS_ims xs [] ⟨#[]⟩ hall]
  rfl
theorem loops_sgi : ∀ b ∈ loopsIn (bodyOf Tryz.f4), LoopOk Tryz.prog (tabL keb2) (OL lp_sgi) Tryz.f4.ntmps (pbOf []) LO_sgi b := by
  refine oneLoop 5 (by kernel_rfl) (by kernel_rfl) (by kernel_rfl) ?_
  intro ls e ls' hl
  replace hl : pickA (LO_sgi_5 ls) = some (e, ls') := hl
  unfold LO_sgi_5 at hl
  split at hl
  · rename_i s x s2 a b n y e c l i
    have key : (Nat.beq x 16384 && Nat.beq y 24576 && Nat.beq e 37 && Nat.beq c 0 && nilB l && (i == 0) && decide (0 ≤ n) && decide (n ≤ 255) && decide (0 ≤ a) && decide (a ≤ s2.size) && holds (s2.size ≤ 2000000)) = true →
        LoopsTo (rdB brC Tryz.prog keb2 lp_sgi LO_sgi Tryz.f4 5 []) [aS s, (.ptr x 0, some (.box [.pv (.str s2), .pv (.int .i64 a), .pv (.bool b)])), aI n, (.own y, some (.lst 6 e c l false)), aI i] (sgR s s2 (rdNS n.toNat (rst s2 a.toNat) b [])) := fun hc => by
      obtain ⟨hc, g10⟩ := andE hc
      obtain ⟨hc, g9⟩ := andE hc
      obtain ⟨hc, g8⟩ := andE hc
      obtain ⟨hc, g7⟩ := andE hc
      obtain ⟨hc, g6⟩ := andE hc
      obtain ⟨hc, g5⟩ := andE hc
      obtain ⟨hc, g4⟩ := andE hc
      obtain ⟨hc, g3⟩ := andE hc
      obtain ⟨hc, g2⟩ := andE hc
      obtain ⟨g0, g1⟩ := andE hc
      have g6 := of_decide_eq_true g6
      have g7 := of_decide_eq_true g7
      have g8 := of_decide_eq_true g8
      have g9 := of_decide_eq_true g9
      rw [Nat.eq_of_beq_eq_true g0, Nat.eq_of_beq_eq_true g1, Nat.eq_of_beq_eq_true g2, Nat.eq_of_beq_eq_true g3, nilB_inv g4, eq_of_beq g5]
      obtain ⟨j, rfl⟩ : ∃ j : Nat, a = (j : Int) := ⟨a.toNat, by omega⟩
      obtain ⟨m, rfl⟩ : ∃ m : Nat, n = (m : Int) := ⟨n.toNat, by omega⟩
      rw [Int.toNat_natCast, Int.toNat_natCast]
      have hj : j ≤ s2.size := by omega
      have := sgi_loop s s2 m (holds_inv g10) (by omega) m 0 (rst s2 j) b [] rfl ⟨j, hj, rfl⟩ (Nat.le_refl _)
      rw [posR_rst hj] at this
      exact this
    rcases pick2 hl with ⟨hc, he⟩ | ⟨hn, hc, he⟩
    · cases he
      obtain ⟨hc, k⟩ := andE hc
      have := key hc
      unfold sgR at this
      rw [k, if_pos rfl] at this
      exact this
    · cases he
      have := key hc
      rw [hc, Bool.true_and] at hn
      unfold sgR at this
      rw [hn, if_neg Bool.false_ne_true] at this
      exact this
  · cases hl
theorem ok_sgi : EntryOk Tryz.prog 4 E_sgi := entry_ofM mix ok_keb2 (lp := lp_sgi) (LO := LO_sgi) ⟨Tryz.func4, by kernel_rfl, by kernel_rfl⟩ (by kernel_rfl) fun ivs res bxs h => by
  unfold E_sgi at h
  split at h
  · rename_i s
    refine ⟨loops_sgi, ?_⟩
    have tree := q_sgi_eq s
    have hs : s.size ≤ 2000000 := by
      rcases pick2 h with ⟨hc, _⟩ | ⟨_, hc, _⟩
      · exact of_decide_eq_true (andE hc).1
      · exact of_decide_eq_true hc
    have hd := decide_eq_true hs
    have o1 := oneV_rng s
    have c1 : decide ((0 : Int) ≤ (s.size : Int)) = true := decide_eq_true (by omega)
    have c2 : decide (oneV s ≤ 255) = true := decide_eq_true o1.2
    have c3 : holds (s.size ≤ 2000000) = true := holds_mk hs
    have c4 : rst s (Int.toNat (posR s (tkR s 1))) = tkR s 1 := pos_suf (Suf.tk (Suf.all s) 1)
    have c5 : decide ((0 : Int) ≤ 0) = true := rfl
    rw [rst_zero, c4] at tree
    simp only [hd, c1, c2, c3, c5, posR_nn, posR_le, oneV_nn, nilB_mk, Nat.beq_refl, beq_self_eq_true, Bool.and_true, Bool.true_and] at tree
    rcases pick2 h with ⟨hc, he⟩ | ⟨hn, hc, he⟩
    · cases he
      obtain ⟨k0, k1⟩ := andE hc
      obtain ⟨xs, hx, rfl⟩ := holds_inv k1
      rw [decI_eq hx]
      obtain ⟨p1, p2, p3, p4⟩ := put_read hx
      have hz : (ByteArray.toList (putI xs) == ([] : List UInt8)) = false := by
        refine beq_eq_false_iff_ne.2 fun e => ?_
        rw [ByteArray.toList_eq, ← List.length_eq_zero_iff, ← size_len] at e
        omega
      have hsh := imgsB_sh hx
      rw [p1, p2, Int.toNat_natCast, putS_read hx] at tree
      dsimp only at tree
      rw [show isIms (PV.sl xs.length (encIm xs)) = true from isIms_mk hsh, show asIms (PV.sl xs.length (encIm xs)) = xs from asIms_mk _, beq_self_eq_true, hz] at tree
      exact ⟨_, tree.trans rfl, rfl, rfl⟩
    · cases he
      have hno : ¬ isImgs s := fun hk => by rw [hc, holds_mk hk] at hn; cases hn
      refine ⟨.tup [cP .nils, cB false], ?_, rfl, rfl⟩
      obtain ⟨g1, g2⟩ := rdNS_sh (oneV s).toNat (tkR s 1) (tkB s false 1) [] (fun _ h => by cases h)
      generalize hX : rdNS (oneV s).toNat (tkR s 1) (tkB s false 1) [] = X at g1 g2 tree
      have hsh : shIms X.2.2.2 := ⟨by rw [List.length_nil] at g2; omega, g1⟩
      rw [show isIms (PV.sl X.2.2.2.length (encIm X.2.2.2)) = true from isIms_mk hsh, show asIms (PV.sl X.2.2.2.length (encIm X.2.2.2)) = X.2.2.2 from asIms_mk _] at tree
      cases h0 : (ByteArray.toList s == ([] : List UInt8)) with
      | true =>
        rw [h0] at tree
        refine tree.trans ?_
        cases X.1 <;> cases X.2.2.1 <;> cases (ByteArray.toList (putI X.2.2.2) == ByteArray.toList s) <;> rfl
      | false =>
        have ne : (ByteArray.toList (putI X.2.2.2) == ByteArray.toList s) = false := by
          refine beq_eq_false_iff_ne.2 fun e => ?_
          by_cases hl : imgsB X.2.2.2 = true
          · exact hno ⟨X.2.2.2, hl, ByteArray.ext (Array.ext' (by rw [← ByteArray.toList_eq, ← ByteArray.toList_eq]; exact e.symm))⟩
          · rw [putI_eq, if_neg hl] at e
            rw [← e, show (ByteArray.toList (⟨#[]⟩ : ByteArray) == ([] : List UInt8)) = true from toList_nil []] at h0
            cases h0
        rw [h0, ne] at tree
        refine tree.trans ?_
        cases X.1 <;> cases X.2.2.1 <;> rfl
  · cases h
end
section
open Go.RowKit
set_option linter.unusedVariables false
set_option linter.unusedSimpArgs false
noncomputable def kgb0 : List (FuncId × Entry) := (4, E_sgi) :: (5, E_gi) :: (6, E_eqIs) :: (7, E_mkI) :: [(8, E_hdI)]
abbrev lp_law : List (Nat × List Nat × List Nat) := [(1000001, [1600560], [])]
noncomputable def q_law (br : Br) (s : ByteArray) := evB br Tryz.prog kgb0 lp_law LO0 Tryz.f3 [cS s]
end
section
set_option linter.unusedVariables false
set_option maxRecDepth 100000
theorem q_law_eq (s : ByteArray) : q_law brC s =
 brC (decide ((↑(ByteArray.size s) : Int) > 1048576))
 (some ((IV.cv (CV.pv (PV.bool true)), [])))
 (brC (decide (ByteArray.size s ≤ 2000000) && holds (isImgs s))
 (brC (decide (ByteArray.size s ≤ 2000000) && holds (isImgs s) && Nat.beq (List.length (decI s)) 0)
 (brC (isIms (PV.sl 0 []) && isIms (PV.sl (List.length (decI s)) (encIm (decI s))))
 (brC (!holds (asIms (PV.sl 0 []) = asIms (PV.sl (List.length (decI s)) (encIm (decI s)))))
 (some ((IV.cv (CV.pv (PV.bool false)), [])))
 (brC (Nat.beq 37 37 && Nat.beq 0 0 && nilB [] && 1 == 1)
 (brC (isIms (PV.sl 0 []) && 1 == 1 && decide (List.length (asIms (PV.sl 0 [])) ≤ 255) && holds (asIms (PV.sl 0 []) = mkIs 1 (asIms (PV.sl 0 []))))
 (brC (decide (mkE 1 (asIms (PV.sl 0 [])) < 0))
 (some ((IV.cv (CV.pv (PV.bool false)), [])))
 (brC (mkE 1 (asIms (PV.sl 0 [])) != 1)
 (some ((IV.cv (CV.pv (PV.bool false)), [])))
 (brC (decide (ByteArray.size s ≤ 2000000) && holds (isImgs s) && Nat.beq (List.length (decI s)) 0)
 (brC (isIms (PV.sl 0 []) && isIms (PV.sl (List.length (decI s)) (encIm (decI s))))
 (brC (!holds (asIms (PV.sl 0 []) = asIms (PV.sl (List.length (decI s)) (encIm (decI s)))))
 (some ((IV.cv (CV.pv (PV.bool false)), [])))
 (brC (isIms (PV.sl 0 []) && 1 == 1 && decide (List.length (asIms (PV.sl 0 [])) ≤ 255) && holds (asIms (PV.sl 0 []) = mkIs 1 (asIms (PV.sl 0 []))))
 (brC (decide (mkE 1 (asIms (PV.sl 0 [])) < 0))
 (some ((IV.cv (CV.pv (PV.bool false)), [])))
 (brC (mkE 1 (asIms (PV.sl 0 [])) != 1)
 (some ((IV.cv (CV.pv (PV.bool false)), [])))
 (some ((IV.cv (CV.pv (PV.bool true)), [])))))
 (none)))
 (none))
 (brC (decide (ByteArray.size s ≤ 2000000) && holds (isImgs s))
 (brC (isIms (PV.sl (List.length (decI s)) (encIm (decI s))) && isIms (PV.sl (List.length (decI s)) (encIm (decI s))))
 (brC (!holds (asIms (PV.sl (List.length (decI s)) (encIm (decI s))) = asIms (PV.sl (List.length (decI s)) (encIm (decI s)))))
 (some ((IV.cv (CV.pv (PV.bool false)), [])))
 (brC (isIms (PV.sl 0 []) && 1 == 1 && decide (List.length (asIms (PV.sl 0 [])) ≤ 255) && holds (asIms (PV.sl 0 []) = mkIs 1 (asIms (PV.sl 0 []))))
 (brC (decide (mkE 1 (asIms (PV.sl 0 [])) < 0))
 (some ((IV.cv (CV.pv (PV.bool false)), [])))
 (brC (mkE 1 (asIms (PV.sl 0 [])) != 1)
 (some ((IV.cv (CV.pv (PV.bool false)), [])))
 (some ((IV.cv (CV.pv (PV.bool true)), [])))))
 (none)))
 (none))
 (brC (decide (ByteArray.size s ≤ 2000000))
 (brC (isIms (PV.sl 0 []) && isIms (PV.sl (List.length (decI s)) (encIm (decI s))))
 (brC (!holds (asIms (PV.sl 0 []) = asIms (PV.sl (List.length (decI s)) (encIm (decI s)))))
 (some ((IV.cv (CV.pv (PV.bool false)), [])))
 (some ((IV.cv (CV.pv (PV.bool false)), []))))
 (none))
 (none))))))
 (none))
 (none)))
 (none))
 (brC (decide (ByteArray.size s ≤ 2000000) && holds (isImgs s))
 (brC (isIms (PV.sl (List.length (decI s)) (encIm (decI s))) && isIms (PV.sl (List.length (decI s)) (encIm (decI s))))
 (brC (!holds (asIms (PV.sl (List.length (decI s)) (encIm (decI s))) = asIms (PV.sl (List.length (decI s)) (encIm (decI s)))))
 (some ((IV.cv (CV.pv (PV.bool false)), [])))
 (brC (Nat.beq (37 + 2000000) 2000037 && isIms (PV.sl (List.length (decI s)) (encIm (decI s))) && 1 == 1 && decide (List.length (decI s) ≤ 255))
 (brC (isIms (PV.sl (List.length (decI s)) (encIm (mkIs 1 (asIms (PV.sl (List.length (decI s)) (encIm (decI s))))))) && 1 == 1 && decide (List.length (asIms (PV.sl (List.length (decI s)) (encIm (mkIs 1 (asIms (PV.sl (List.length (decI s)) (encIm (decI s)))))))) ≤ 255) && holds (asIms (PV.sl (List.length (decI s)) (encIm (mkIs 1 (asIms (PV.sl (List.length (decI s)) (encIm (decI s))))))) = mkIs 1 (asIms (PV.sl (List.length (decI s)) (encIm (mkIs 1 (asIms (PV.sl (List.length (decI s)) (encIm (decI s))))))))))
 (brC (decide (mkE 1 (asIms (PV.sl (List.length (decI s)) (encIm (mkIs 1 (asIms (PV.sl (List.length (decI s)) (encIm (decI s)))))))) < 0))
 (some ((IV.cv (CV.pv (PV.bool false)), [])))
 (brC (mkE 1 (asIms (PV.sl (List.length (decI s)) (encIm (mkIs 1 (asIms (PV.sl (List.length (decI s)) (encIm (decI s)))))))) != mkE 1 (asIms (PV.sl (List.length (decI s)) (encIm (decI s)))))
 (some ((IV.cv (CV.pv (PV.bool false)), [])))
 (brC (decide (ByteArray.size s ≤ 2000000) && holds (isImgs s) && Nat.beq (List.length (decI s)) 0)
 (brC (isIms (PV.sl 0 []) && isIms (PV.sl (List.length (decI s)) (encIm (decI s))))
 (brC (!holds (asIms (PV.sl 0 []) = asIms (PV.sl (List.length (decI s)) (encIm (decI s)))))
 (some ((IV.cv (CV.pv (PV.bool false)), [])))
 (brC (isIms (PV.sl (List.length (decI s)) (encIm (mkIs 1 (asIms (PV.sl (List.length (decI s)) (encIm (decI s))))))) && 1 == 1 && decide (List.length (asIms (PV.sl (List.length (decI s)) (encIm (mkIs 1 (asIms (PV.sl (List.length (decI s)) (encIm (decI s)))))))) ≤ 255) && holds (asIms (PV.sl (List.length (decI s)) (encIm (mkIs 1 (asIms (PV.sl (List.length (decI s)) (encIm (decI s))))))) = mkIs 1 (asIms (PV.sl (List.length (decI s)) (encIm (mkIs 1 (asIms (PV.sl (List.length (decI s)) (encIm (decI s))))))))))
 (brC (decide (mkE 1 (asIms (PV.sl (List.length (decI s)) (encIm (mkIs 1 (asIms (PV.sl (List.length (decI s)) (encIm (decI s)))))))) < 0))
 (some ((IV.cv (CV.pv (PV.bool false)), [])))
 (brC (mkE 1 (asIms (PV.sl (List.length (decI s)) (encIm (mkIs 1 (asIms (PV.sl (List.length (decI s)) (encIm (decI s)))))))) != mkE 1 (asIms (PV.sl (List.length (decI s)) (encIm (decI s)))))
 (some ((IV.cv (CV.pv (PV.bool false)), [])))
 (some ((IV.cv (CV.pv (PV.bool true)), [])))))
 (none)))
 (none))
 (brC (decide (ByteArray.size s ≤ 2000000) && holds (isImgs s))
 (brC (isIms (PV.sl (List.length (decI s)) (encIm (decI s))) && isIms (PV.sl (List.length (decI s)) (encIm (decI s))))
 (brC (!holds (asIms (PV.sl (List.length (decI s)) (encIm (decI s))) = asIms (PV.sl (List.length (decI s)) (encIm (decI s)))))
 (some ((IV.cv (CV.pv (PV.bool false)), [])))
 (brC (isIms (PV.sl (List.length (decI s)) (encIm (mkIs 1 (asIms (PV.sl (List.length (decI s)) (encIm (decI s))))))) && 1 == 1 && decide (List.length (asIms (PV.sl (List.length (decI s)) (encIm (mkIs 1 (asIms (PV.sl (List.length (decI s)) (encIm (decI s)))))))) ≤ 255) && holds (asIms (PV.sl (List.length (decI s)) (encIm (mkIs 1 (asIms (PV.sl (List.length (decI s)) (encIm (decI s))))))) = mkIs 1 (asIms (PV.sl (List.length (decI s)) (encIm (mkIs 1 (asIms (PV.sl (List.length (decI s)) (encIm (decI s))))))))))
 (brC (decide (mkE 1 (asIms (PV.sl (List.length (decI s)) (encIm (mkIs 1 (asIms (PV.sl (List.length (decI s)) (encIm (decI s)))))))) < 0))
 (some ((IV.cv (CV.pv (PV.bool false)), [])))
 (brC (mkE 1 (asIms (PV.sl (List.length (decI s)) (encIm (mkIs 1 (asIms (PV.sl (List.length (decI s)) (encIm (decI s)))))))) != mkE 1 (asIms (PV.sl (List.length (decI s)) (encIm (decI s)))))
 (some ((IV.cv (CV.pv (PV.bool false)), [])))
 (some ((IV.cv (CV.pv (PV.bool true)), [])))))
 (none)))
 (none))
 (brC (decide (ByteArray.size s ≤ 2000000))
 (brC (isIms (PV.sl 0 []) && isIms (PV.sl (List.length (decI s)) (encIm (decI s))))
 (brC (!holds (asIms (PV.sl 0 []) = asIms (PV.sl (List.length (decI s)) (encIm (decI s)))))
 (some ((IV.cv (CV.pv (PV.bool false)), [])))
 (some ((IV.cv (CV.pv (PV.bool false)), []))))
 (none))
 (none))))))
 (none))
 (none)))
 (none))
 (brC (decide (ByteArray.size s ≤ 2000000))
 (brC (isIms (PV.sl 0 []) && isIms (PV.sl (List.length (decI s)) (encIm (decI s))))
 (brC (!holds (asIms (PV.sl 0 []) = asIms (PV.sl (List.length (decI s)) (encIm (decI s)))))
 (some ((IV.cv (CV.pv (PV.bool false)), [])))
 (some ((IV.cv (CV.pv (PV.bool false)), []))))
 (none))
 (none))))
 (brC (decide (ByteArray.size s ≤ 2000000))
 (brC (decide (ByteArray.size s ≤ 2000000) && holds (isImgs s) && Nat.beq (List.length (decI s)) 0)
 (brC (isIms (PV.sl 0 []) && isIms (PV.sl 0 []))
 (brC (!holds (asIms (PV.sl 0 []) = asIms (PV.sl 0 [])))
 (some ((IV.cv (CV.pv (PV.bool false)), [])))
 (some ((IV.cv (CV.pv (PV.bool false)), []))))
 (none))
 (brC (decide (ByteArray.size s ≤ 2000000) && holds (isImgs s))
 (brC (isIms (PV.sl (List.length (decI s)) (encIm (decI s))) && isIms (PV.sl 0 []))
 (brC (!holds (asIms (PV.sl (List.length (decI s)) (encIm (decI s))) = asIms (PV.sl 0 [])))
 (some ((IV.cv (CV.pv (PV.bool false)), [])))
 (some ((IV.cv (CV.pv (PV.bool false)), []))))
 (none))
 (brC (decide (ByteArray.size s ≤ 2000000))
 (brC (isIms (PV.sl 0 []) && isIms (PV.sl 0 []))
 (brC (!holds (asIms (PV.sl 0 []) = asIms (PV.sl 0 [])))
 (some ((IV.cv (CV.pv (PV.bool false)), [])))
 (brC (Nat.beq 0 0 && nilB [] && 1 == 1)
 (brC (isIms (PV.sl 0 []) && 1 == 1 && decide (List.length (asIms (PV.sl 0 [])) ≤ 255) && holds (asIms (PV.sl 0 []) = mkIs 1 (asIms (PV.sl 0 []))))
 (brC (decide (mkE 1 (asIms (PV.sl 0 [])) < 0))
 (some ((IV.cv (CV.pv (PV.bool false)), [])))
 (brC (mkE 1 (asIms (PV.sl 0 [])) != 1)
 (some ((IV.cv (CV.pv (PV.bool false)), [])))
 (brC (decide (ByteArray.size s ≤ 2000000) && holds (isImgs s) && Nat.beq (List.length (decI s)) 0)
 (brC (isIms (PV.sl 0 []) && isIms (PV.sl 0 []))
 (brC (!holds (asIms (PV.sl 0 []) = asIms (PV.sl 0 [])))
 (some ((IV.cv (CV.pv (PV.bool false)), [])))
 (some ((IV.cv (CV.pv (PV.bool false)), []))))
 (none))
 (brC (decide (ByteArray.size s ≤ 2000000) && holds (isImgs s))
 (brC (isIms (PV.sl (List.length (decI s)) (encIm (decI s))) && isIms (PV.sl 0 []))
 (brC (!holds (asIms (PV.sl (List.length (decI s)) (encIm (decI s))) = asIms (PV.sl 0 [])))
 (some ((IV.cv (CV.pv (PV.bool false)), [])))
 (some ((IV.cv (CV.pv (PV.bool false)), []))))
 (none))
 (brC (decide (ByteArray.size s ≤ 2000000))
 (brC (isIms (PV.sl 0 []) && isIms (PV.sl 0 []))
 (brC (!holds (asIms (PV.sl 0 []) = asIms (PV.sl 0 [])))
 (some ((IV.cv (CV.pv (PV.bool false)), [])))
 (brC (isIms (PV.sl 0 []) && 1 == 1 && decide (List.length (asIms (PV.sl 0 [])) ≤ 255) && holds (asIms (PV.sl 0 []) = mkIs 1 (asIms (PV.sl 0 []))))
 (brC (decide (mkE 1 (asIms (PV.sl 0 [])) < 0))
 (some ((IV.cv (CV.pv (PV.bool false)), [])))
 (brC (mkE 1 (asIms (PV.sl 0 [])) != 1)
 (some ((IV.cv (CV.pv (PV.bool false)), [])))
 (some ((IV.cv (CV.pv (PV.bool true)), [])))))
 (none)))
 (none))
 (none))))))
 (none))
 (none)))
 (none))
 (none))))
 (none))) := by kernel_rfl
end
section
open Go.RowKit Go.ChangeShapes Go.WideShapes
set_option linter.unusedVariables false
set_option linter.unusedSimpArgs false
theorem row_top {w : World} {b : Nat} {xs : List Value} (h : ∃ t f, w.heap[b]? = some (.cells xs.toArray t f)) : GlRow w (comTop w) b xs := by
  obtain ⟨t, f, h⟩ := h
  refine ⟨⟨t, f, h⟩, ?_⟩
  unfold comTop
  rw [h]
  simp
theorem tabIs_row {w : World} {name : String} {g : Nat} {k : IntKind} {zs : List Int} (hg : Tryz.prog.globalNamed name = some g) (h : Lib.TabIs Tryz.prog w name k zs) : GlRow w (comTop w) g (zs.map fun z => Value.int k z) := by
  unfold Lib.TabIs World.var? at h
  rw [hg] at h
  dsimp only [Option.bind_some] at h
  split at h
  · rename_i cs t f hb
    cases h
    exact row_top ⟨t, f, hb⟩
  · cases h
theorem gl_top {w : World}
  (hm : ∃ m : Int, w.cell? ⟨0, 0, none⟩ = some (.int .i64 m))
  (ht : Lib.TabIs Tryz.prog w "internal/strconv.uint64pow10" .u64 Lib.pow10Tab)
  : Gl w (comTop w) := by
  unfold Gl
  refine ⟨?_, ?_⟩
  · obtain ⟨m, hm⟩ := hm
    exact ⟨m, hm, comTop_at hm⟩
  refine ⟨tabIs_row (by kernel_rfl) ht, ?_⟩
  trivial
end
section
open Go.RowKit
set_option linter.unusedVariables false
set_option linter.unusedSimpArgs false
set_option maxRecDepth 100000
theorem mkL_sh : ∀ (l : List ByteArray) (k : Int), ∀ x ∈ mkL k l, x.size ≤ 21
  | [], _, x, hx => by cases hx
  | y :: t, k, x, hx => by
    rcases List.mem_cons.1 hx with rfl | hx
    · exact mkV_size k
    · exact mkL_sh t (k + 1) x hx
theorem mkI_sh {x : ImT} (h : shIm x) (k : Int) : shIm (mkI k x) := by
  have a := mkV_size k
  have b := mkV_size (k + 2 + x.subs.length)
  have c := mkV_size (k + 4 + x.subs.length)
  refine ⟨?_, ⟨?_, fun y hy => ?_⟩, ?_, ?_⟩
  · show (mkV k).size ≤ 1000000
    omega
  · show (mkL (k + 1) x.subs).length ≤ _
    rw [mkL_len]
    exact h.2.1.1
  · have := mkL_sh x.subs (k + 1) y hy
    omega
  · show (mkV (k + 2 + x.subs.length)).size ≤ 1000000
    omega
  · show (mkV (k + 4 + x.subs.length)).size ≤ 1000000
    omega
theorem mkIs_sh : ∀ (l : List ImT) (k : Int), (∀ x ∈ l, shIm x) → ∀ x ∈ mkIs k l, shIm x
  | [], _, _, x, hx => by cases hx
  | y :: t, k, h, x, hx => by
    rcases List.mem_cons.1 hx with rfl | hx
    · exact mkI_sh (h y (List.mem_cons_self ..)) k
    · exact mkIs_sh t _ (fun z hz => h z (List.mem_cons_of_mem _ hz)) x hx
theorem mkE_ge : ∀ (l : List ImT) (k : Int), k ≤ mkE k l
  | [], k => Int.le_refl _
  | x :: t, k => by
    have := mkE_ge t (k + 5 + x.subs.length)
    show k ≤ mkE (k + 5 + x.subs.length) t
    omega
theorem law_true (s : ByteArray) : q_law brC s = some (cB true, []) := by
  refine (q_law_eq s).trans ?_
  by_cases h : s.size ≤ 1048576
  · rw [dF (show ¬ (s.size : Int) > 1048576 by omega), dT (show s.size ≤ 2000000 by omega)]
    have i0 : isIms (PV.sl 0 []) = true := isIms_mk shIms_nil
    have a0 : asIms (PV.sl 0 []) = [] := asIms_mk []
    have e0 : mkIs 1 ([] : List ImT) = [] := rfl
    have e1 : mkE 1 ([] : List ImT) = 1 := rfl
    have hh0 : holds (([] : List ImT) = []) = true := holds_mk rfl
    by_cases hI : isImgs s
    · rw [holds_mk hI]
      obtain ⟨xs, hx, rfl⟩ := hI
      rw [decI_eq hx]
      have hsh := imgsB_sh hx
      have hl := (imgsB_inv hx).1
      have i1 : isIms (PV.sl xs.length (encIm xs)) = true := isIms_mk hsh
      have a1 : asIms (PV.sl xs.length (encIm xs)) = xs := asIms_mk xs
      have hml := mkIs_len 1 xs
      have i2 : isIms (PV.sl xs.length (encIm (mkIs 1 xs))) = true := by
        have := isIms_mk (t := mkIs 1 xs) ⟨by rw [hml]; omega, mkIs_sh _ _ hsh.2⟩
        rwa [hml] at this
      have a2 : asIms (PV.sl xs.length (encIm (mkIs 1 xs))) = mkIs 1 xs := by
        have := asIms_mk (mkIs 1 xs)
        rwa [hml] at this
      have hh1 : holds (xs = xs) = true := holds_mk rfl
      have hh2 : holds (mkIs 1 xs = mkIs 1 (mkIs 1 xs)) = true := holds_mk (mkIs_idem 1 xs).symm
      have hge := mkE_ge xs 1
      have hd1 : decide (mkE 1 xs < 0) = false := dF (by omega)
      have hd2 : decide (xs.length ≤ 255) = true := dT (by omega)
      have hd3 : decide (([] : List ImT).length ≤ 255) = true := rfl
      by_cases hz : xs = []
      · subst hz
        simp only [i0, a0, e0, e1, hh0, List.length_nil, show encIm [] = [] from rfl, nilB_mk, show holds True = true from holds_mk trivial]
        rfl
      · have hz2 : Nat.beq xs.length 0 = false := Bool.eq_false_iff.2 fun e => hz (List.length_eq_zero_iff.1 (Nat.eq_of_beq_eq_true e))
        rw [i1, a1, i2, a2, mkE_mk, hml, hh1, hh2, hd1, hd2, hz2, bne_self_eq_false]
        rfl
    · have hF : holds (isImgs s) = false := @decide_eq_false _ (Classical.propDecidable _) hI
      rw [hF, i0, a0, e0, e1, hh0]
      simp only [Bool.and_false, Bool.false_and, nilB_mk]
      rfl
  · rw [dT (show (s.size : Int) > 1048576 by omega)]
    rfl
theorem ok_kgb0 : EntriesOk Tryz.prog kgb0 := ⟨ok_sgi, ok_gi, ok_eqIs, ok_mkI, ok_hdI, trivial⟩
theorem GetImages_walk (s : ByteArray) (w : World) (hgl : Gl w (comTop w)) :
    Calls Tryz.prog 3 #[.string s] w fun e w' => e = .returned (.bool true) ∧ Below w.heap.size w w' := by
  have hc : Contract Tryz.prog 3 ([.str s].map fun p => .cv (.pv p)) (.cv (.pv (.bool true))) [] :=
    fun_okB mix (tabL_ok (l := kgb0) ok_kgb0) (O := OL lp_law) (LO := LO0) ⟨Tryz.func3, by kernel_rfl, by kernel_rfl⟩ (by kernel_rfl) rfl (noLoop (by kernel_rfl)) (law_true s)
  exact hc.lawTop (w := w) (vals := [.string s]) (PReps.cons (.str s) (PReps.nil _ _)) hgl
end
section
open Go.RowKit
theorem FnExactGetImages_walk (v : Value) (s : ByteArray) (w : World) (hv : PRep w (comTop w) v (.str s)) (_ : s.size ≤ 2 ^ 63 - 1) (hgl : Gl w (comTop w)) :
    Calls Tryz.prog 3 #[v] w fun e w' => e = .returned (.bool true) ∧ Below w.heap.size w w' := by
  cases hv
  exact GetImages_walk s w hgl
end
end Go.Proofs.YtlenmjklpiccdaaGreatDoor
