import Derived.Test.YtobhacnimkccmaaGreatDoorZZk
import Derived.Test.YtobhacnimkccmaaGreatDoorZZe
import Derived.Test.YtobhacnimkccmaaGreatDoorZZg
import Derived.ChangeSlices
import Derived.WideShapes
import Derived.OpenShut
namespace Go.Proofs.YtobhacnimkccmaaGreatDoor
set_option linter.unusedVariables false
set_option maxRecDepth 100000
set_option linter.unusedSimpArgs false
section
theorem jqR (s : ByteArray) : q_sun brC s =
 brC (decide (0 ≤ 0) && decide (0 ≤ (↑(ByteArray.size s) : Int)) && decide (ByteArray.size s ≤ 2000000))
 (brC (Nat.beq 8192 8192 && Nat.beq 16384 16384 && Nat.beq 24576 24576 && (decide (oneV (rst s 0) ≤ 0) || tkB (rst s 0) false 1) && 0 == 0)
 (brC (tkB (rst s 0) false 1)
 (some ((.tup [.agg [.pv PV.nils], .cv (.pv (.bool false))], [])))
 (brC (isT (PV.agg [PV.sl 0 []]))
 (brC (!ByteArray.toList (packV (asT (PV.agg [PV.sl 0 []]))) == ByteArray.toList s)
 (some ((.tup [.agg [.pv PV.nils], .cv (.pv (.bool false))], [])))
 (brC (ByteArray.toList s == [])
 (some ((.tup [.agg [.pv PV.nils], .cv (.pv (.bool false))], [])))
 (some ((.tup [.agg [.pv PV.nils], .cv (.pv (.bool true))], [])))))
 none))
 (brC (Nat.beq 8192 8192 && Nat.beq 16384 16384 && Nat.beq 24576 24576 && 0 == 0 && decide (0 ≤ oneV (rst s 0)) && decide (oneV (rst s 0) ≤ 255) && decide (0 ≤ posR s (tkR (rst s 0) 1)) && decide (posR s (tkR (rst s 0) 1) ≤ (↑(ByteArray.size s) : Int)) && holds (ByteArray.size s ≤ 2000000) && Nat.beq 0 0 && Prod.fst (unS (Int.toNat (oneV (rst s 0))) (rst s (Int.toNat (posR s (tkR (rst s 0) 1)))) (tkB (rst s 0) false 1) { data := #[] } []))
 (brC (Prod.fst (Prod.snd (Prod.snd (unS (Int.toNat (oneV (rst s 0))) (rst s (Int.toNat (posR s (tkR (rst s 0) 1)))) (tkB (rst s 0) false 1) { data := #[] } []))))
 (some ((.tup [.agg [.pv PV.nils], .cv (.pv (.bool false))], [])))
 (brC (isT (PV.agg [PV.sl (List.length (Prod.snd (Prod.snd (Prod.snd (unS (Int.toNat (oneV (rst s 0))) (rst s (Int.toNat (posR s (tkR (rst s 0) 1)))) (tkB (rst s 0) false 1) { data := #[] } []))))) (encN (Prod.snd (Prod.snd (Prod.snd (unS (Int.toNat (oneV (rst s 0))) (rst s (Int.toNat (posR s (tkR (rst s 0) 1)))) (tkB (rst s 0) false 1) { data := #[] } [])))))]))
 (brC (!ByteArray.toList (packV (asT (PV.agg [PV.sl (List.length (Prod.snd (Prod.snd (Prod.snd (unS (Int.toNat (oneV (rst s 0))) (rst s (Int.toNat (posR s (tkR (rst s 0) 1)))) (tkB (rst s 0) false 1) { data := #[] } []))))) (encN (Prod.snd (Prod.snd (Prod.snd (unS (Int.toNat (oneV (rst s 0))) (rst s (Int.toNat (posR s (tkR (rst s 0) 1)))) (tkB (rst s 0) false 1) { data := #[] } [])))))]))) == ByteArray.toList s)
 (some ((.tup [.agg [.pv PV.nils], .cv (.pv (.bool false))], [])))
 (brC (ByteArray.toList s == [])
 (some ((.tup [.agg [.pv PV.nils], .cv (.pv (.bool false))], [])))
 (some ((.tup [.agg [.lst 3 88 (List.length (Prod.snd (Prod.snd (Prod.snd (unS (Int.toNat (oneV (rst s 0))) (rst s (Int.toNat (posR s (tkR (rst s 0) 1)))) (tkB (rst s 0) false 1) { data := #[] } []))))) (encN (Prod.snd (Prod.snd (Prod.snd (unS (Int.toNat (oneV (rst s 0))) (rst s (Int.toNat (posR s (tkR (rst s 0) 1)))) (tkB (rst s 0) false 1) { data := #[] } []))))) true], .cv (.pv (.bool true))], [])))))
 none))
 (brC (Nat.beq 8192 8192 && Nat.beq 16384 16384 && Nat.beq 24576 24576 && 0 == 0 && decide (0 ≤ oneV (rst s 0)) && decide (oneV (rst s 0) ≤ 255) && decide (0 ≤ posR s (tkR (rst s 0) 1)) && decide (posR s (tkR (rst s 0) 1) ≤ (↑(ByteArray.size s) : Int)) && holds (ByteArray.size s ≤ 2000000) && Nat.beq 0 0)
 (some ((.tup [.agg [.pv PV.nils], .cv (.pv (.bool false))], [])))
 none)))
 none := by kernel_rfl
noncomputable def zzah0 (s : ByteArray) (s2 : ByteArray) (a : Int) (b : Bool) (n : Int) (last : ByteArray) (i : Int) := (rst s2 (Int.toNat (posR s2 (tkR (rst s2 (Int.toNat (posR s2 (tkR (rst s2 (Int.toNat (posR s2 (tkR (rst s2 (Int.toNat a)) 1)))) 1)))) (Int.toNat (oneV (rst s2 (Int.toNat (posR s2 (tkR (rst s2 (Int.toNat a)) 1))))))))))
noncomputable def zzah1 (s : ByteArray) (s2 : ByteArray) (a : Int) (b : Bool) (n : Int) (last : ByteArray) (i : Int) := (ByteArray.extract last 0 (Int.toNat (oneV (rst s2 (Int.toNat a)))) ++ tkS (rst s2 (Int.toNat (posR s2 (tkR (rst s2 (Int.toNat (posR s2 (tkR (rst s2 (Int.toNat a)) 1)))) 1)))) (Int.toNat (oneV (rst s2 (Int.toNat (posR s2 (tkR (rst s2 (Int.toNat a)) 1)))))))
noncomputable def zzah2 (s : ByteArray) (s2 : ByteArray) (a : Int) (b : Bool) (n : Int) (last : ByteArray) (i : Int) := (tkB (rst s2 (Int.toNat (posR s2 (tkR (zzah0 s s2 a b n last i) 1)))) (tkB (zzah0 s s2 a b n last i) (tkB (rst s2 (Int.toNat (posR s2 (tkR (rst s2 (Int.toNat (posR s2 (tkR (rst s2 (Int.toNat a)) 1)))) 1)))) (tkB (rst s2 (Int.toNat (posR s2 (tkR (rst s2 (Int.toNat a)) 1)))) (tkB (rst s2 (Int.toNat a)) b 1) 1) (Int.toNat (oneV (rst s2 (Int.toNat (posR s2 (tkR (rst s2 (Int.toNat a)) 1))))))) 1) (Int.toNat (oneV (zzah0 s s2 a b n last i))))
theorem jjo (s : ByteArray) (s2 : ByteArray) (a : Int) (b : Bool) (n : Int) (last : ByteArray) (i : Int) : jtP brC s s2 a b n last i =
 brC (decide (i < n))
 (brC (!b)
 (brC (decide (0 ≤ a) && decide (a ≤ (↑(ByteArray.size s2) : Int)) && decide (ByteArray.size s2 ≤ 2000000))
 (brC (decide (0 ≤ posR s2 (tkR (rst s2 (Int.toNat a)) 1)) && decide (posR s2 (tkR (rst s2 (Int.toNat a)) 1) ≤ (↑(ByteArray.size s2) : Int)) && decide (ByteArray.size s2 ≤ 2000000))
 (brC (decide (0 ≤ oneV (rst s2 (Int.toNat (posR s2 (tkR (rst s2 (Int.toNat a)) 1))))) && decide (0 ≤ posR s2 (tkR (rst s2 (Int.toNat (posR s2 (tkR (rst s2 (Int.toNat a)) 1)))) 1)) && decide (posR s2 (tkR (rst s2 (Int.toNat (posR s2 (tkR (rst s2 (Int.toNat a)) 1)))) 1) ≤ (↑(ByteArray.size s2) : Int)) && decide (ByteArray.size s2 ≤ 2000000))
 (brC (decide (0 ≤ posR s2 (tkR (rst s2 (Int.toNat (posR s2 (tkR (rst s2 (Int.toNat (posR s2 (tkR (rst s2 (Int.toNat a)) 1)))) 1)))) (Int.toNat (oneV (rst s2 (Int.toNat (posR s2 (tkR (rst s2 (Int.toNat a)) 1)))))))) && decide (posR s2 (tkR (rst s2 (Int.toNat (posR s2 (tkR (rst s2 (Int.toNat (posR s2 (tkR (rst s2 (Int.toNat a)) 1)))) 1)))) (Int.toNat (oneV (rst s2 (Int.toNat (posR s2 (tkR (rst s2 (Int.toNat a)) 1))))))) ≤ (↑(ByteArray.size s2) : Int)) && decide (ByteArray.size s2 ≤ 2000000))
 (brC (decide (0 ≤ oneV (zzah0 s s2 a b n last i)) && decide (0 ≤ posR s2 (tkR (zzah0 s s2 a b n last i) 1)) && decide (posR s2 (tkR (zzah0 s s2 a b n last i) 1) ≤ (↑(ByteArray.size s2) : Int)) && decide (ByteArray.size s2 ≤ 2000000))
 (brC (decide (oneV (rst s2 (Int.toNat a)) > (↑(ByteArray.size last) : Int)))
 (some (.inr (.ret, [(.pv (.str s), none), (.ptr 8192 0, some (.box [.pv PV.nils])), (.pv (.bool false), none), (.ptr 16384 0, some (.box [.pv (.str s2), .pv (.int .i64 (posR s2 (tkR (rst s2 (Int.toNat (posR s2 (tkR (zzah0 s s2 a b n last i) 1)))) (Int.toNat (oneV (zzah0 s s2 a b n last i)))))), .pv (.bool (zzah2 s s2 a b n last i))])), (.ptr 24576 0, some (.box [.pv PV.nils]))])))
 (brC (decide (0 ≤ 0) && decide (0 ≤ oneV (rst s2 (Int.toNat a))) && decide (oneV (rst s2 (Int.toNat a)) ≤ (↑(ByteArray.size last) : Int)) && true && true)
 (brC (decide (ByteArray.size (ByteArray.extract last 0 (Int.toNat (oneV (rst s2 (Int.toNat a))))) + ByteArray.size (tkS (rst s2 (Int.toNat (posR s2 (tkR (rst s2 (Int.toNat (posR s2 (tkR (rst s2 (Int.toNat a)) 1)))) 1)))) (Int.toNat (oneV (rst s2 (Int.toNat (posR s2 (tkR (rst s2 (Int.toNat a)) 1))))))) ≤ 9223372036854775807) && true)
 (brC (decide (ByteArray.size (zzah1 s s2 a b n last i) ≤ 2000) && holds (isKy (zzah1 s s2 a b n last i)))
 (some (.inl [(.pv (.str s), none), (.ptr 8192 0, some (.box [.pv PV.nils])), (.ptr 16384 0, some (.box [.pv (.str s2), .pv (.int .i64 (posR s2 (tkR (rst s2 (Int.toNat (posR s2 (tkR (zzah0 s s2 a b n last i) 1)))) (Int.toNat (oneV (zzah0 s s2 a b n last i)))))), .pv (.bool (zzah2 s s2 a b n last i))])), (.pv (.int .i64 n), none), (.ptr 24576 0, some (.box [.lst 3 88 1 [PV.str (Prod.fst (deKy (zzah1 s s2 a b n last i))), PV.sl (List.length (Prod.snd (deKy (zzah1 s s2 a b n last i)))) (List.map PV.str (Prod.snd (deKy (zzah1 s s2 a b n last i)))), PV.str (tkS (rst s2 (Int.toNat (posR s2 (tkR (zzah0 s s2 a b n last i) 1)))) (Int.toNat (oneV (zzah0 s s2 a b n last i))))] true])), (.pv (.str (zzah1 s s2 a b n last i)), none), (.pv (.int .i64 (IntKind.wrap .i64 (i + 1))), none)]))
 (brC (decide (ByteArray.size (zzah1 s s2 a b n last i) ≤ 2000))
 (some (.inr (.ret, [(.pv (.str s), none), (.ptr 8192 0, some (.box [.pv PV.nils])), (.pv (.bool false), none), (.ptr 16384 0, some (.box [.pv (.str s2), .pv (.int .i64 (posR s2 (tkR (rst s2 (Int.toNat (posR s2 (tkR (zzah0 s s2 a b n last i) 1)))) (Int.toNat (oneV (zzah0 s s2 a b n last i)))))), .pv (.bool (zzah2 s s2 a b n last i))])), (.ptr 24576 0, some (.box [.pv PV.nils]))])))
 none))
 none)
 none))
 none)
 none)
 none)
 none)
 none)
 (some (.inr (.exit 0, [(.pv (.str s), none), (.ptr 8192 0, some (.box [.pv PV.nils])), (.bad, none), (.ptr 16384 0, some (.box [.pv (.str s2), .pv (.int .i64 a), .pv (.bool b)])), (.ptr 24576 0, some (.box [.pv PV.nils]))]))))
 (some (.inr (.exit 0, [(.pv (.str s), none), (.ptr 8192 0, some (.box [.pv PV.nils])), (.bad, none), (.ptr 16384 0, some (.box [.pv (.str s2), .pv (.int .i64 a), .pv (.bool b)])), (.ptr 24576 0, some (.box [.pv PV.nils]))]))) := by kernel_rfl
theorem jrx (s : ByteArray) : q_un brC s =
 brC (decide (ByteArray.size s ≤ 2000000))
 (brC (Nat.beq 8192 8192 && Nat.beq 16384 16384 && Nat.beq 20480 20480 && (decide (oneV s ≤ 0) || tkB s false 1))
 (brC (tkB s false 1)
 (some ((.tup [.agg [.pv PV.nils], .cv (.pv (.bool false))], [])))
 (brC (ByteArray.toList s == [])
 (some ((.tup [.agg [.pv PV.nils], .cv (.pv (.bool false))], [])))
 (brC (isT (PV.agg [PV.sl 0 []]))
 (brC (!ByteArray.toList (packV (asT (PV.agg [PV.sl 0 []]))) == ByteArray.toList s)
 (some ((.tup [.agg [.pv PV.nils], .cv (.pv (.bool false))], [])))
 (some ((.tup [.agg [.pv PV.nils], .cv (.pv (.bool true))], []))))
 none)))
 (brC (Nat.beq 8192 8192 && Nat.beq 16384 16384 && Nat.beq 20480 20480 && decide (0 ≤ oneV s) && decide (oneV s ≤ 255) && holds (ByteArray.size (tkR s 1) ≤ 2000000) && Nat.beq 0 0)
 (brC (Prod.fst (Prod.snd (unN (Int.toNat (oneV s)) (tkR s 1) (tkB s false 1) { data := #[] } [])))
 (some ((.tup [.agg [.pv PV.nils], .cv (.pv (.bool false))], [])))
 (brC (ByteArray.toList s == [])
 (some ((.tup [.agg [.pv PV.nils], .cv (.pv (.bool false))], [])))
 (brC (isT (PV.agg [PV.sl (List.length (Prod.snd (Prod.snd (unN (Int.toNat (oneV s)) (tkR s 1) (tkB s false 1) { data := #[] } [])))) (encN (Prod.snd (Prod.snd (unN (Int.toNat (oneV s)) (tkR s 1) (tkB s false 1) { data := #[] } []))))]))
 (brC (!ByteArray.toList (packV (asT (PV.agg [PV.sl (List.length (Prod.snd (Prod.snd (unN (Int.toNat (oneV s)) (tkR s 1) (tkB s false 1) { data := #[] } [])))) (encN (Prod.snd (Prod.snd (unN (Int.toNat (oneV s)) (tkR s 1) (tkB s false 1) { data := #[] } []))))]))) == ByteArray.toList s)
 (some ((.tup [.agg [.pv PV.nils], .cv (.pv (.bool false))], [])))
 (some ((.tup [.agg [.dls 3 88 (List.length (Prod.snd (Prod.snd (unN (Int.toNat (oneV s)) (tkR s 1) (tkB s false 1) { data := #[] } [])))) (encN (Prod.snd (Prod.snd (unN (Int.toNat (oneV s)) (tkR s 1) (tkB s false 1) { data := #[] } []))))], .cv (.pv (.bool true))], []))))
 none)))
 none))
 none := by kernel_rfl
noncomputable def zzai0 (s : ByteArray) (s2 : ByteArray) (a : Int) (b : Bool) (n : Int) (l : List NodeT) (last : ByteArray) (i : Int) := (rst s2 (Int.toNat (posR s2 (tkR (rst s2 (Int.toNat (posR s2 (tkR (rst s2 (Int.toNat (posR s2 (tkR (rst s2 (Int.toNat a)) 1)))) 1)))) (Int.toNat (oneV (rst s2 (Int.toNat (posR s2 (tkR (rst s2 (Int.toNat a)) 1))))))))))
noncomputable def zzai1 (s : ByteArray) (s2 : ByteArray) (a : Int) (b : Bool) (n : Int) (l : List NodeT) (last : ByteArray) (i : Int) := (ByteArray.extract last 0 (Int.toNat (oneV (rst s2 (Int.toNat a)))) ++ tkS (rst s2 (Int.toNat (posR s2 (tkR (rst s2 (Int.toNat (posR s2 (tkR (rst s2 (Int.toNat a)) 1)))) 1)))) (Int.toNat (oneV (rst s2 (Int.toNat (posR s2 (tkR (rst s2 (Int.toNat a)) 1)))))))
noncomputable def zzai2 (s : ByteArray) (s2 : ByteArray) (a : Int) (b : Bool) (n : Int) (l : List NodeT) (last : ByteArray) (i : Int) := (tkB (rst s2 (Int.toNat (posR s2 (tkR (zzai0 s s2 a b n l last i) 1)))) (tkB (zzai0 s s2 a b n l last i) (tkB (rst s2 (Int.toNat (posR s2 (tkR (rst s2 (Int.toNat (posR s2 (tkR (rst s2 (Int.toNat a)) 1)))) 1)))) (tkB (rst s2 (Int.toNat (posR s2 (tkR (rst s2 (Int.toNat a)) 1)))) (tkB (rst s2 (Int.toNat a)) b 1) 1) (Int.toNat (oneV (rst s2 (Int.toNat (posR s2 (tkR (rst s2 (Int.toNat a)) 1))))))) 1) (Int.toNat (oneV (zzai0 s s2 a b n l last i))))
theorem jhc (s : ByteArray) (s2 : ByteArray) (a : Int) (b : Bool) (n : Int) (l : List NodeT) (last : ByteArray) (i : Int) : r_sun brC s s2 a b n l last i =
 brC (decide (i < n))
 (brC (!b)
 (brC (decide (0 ≤ a) && decide (a ≤ (↑(ByteArray.size s2) : Int)) && decide (ByteArray.size s2 ≤ 2000000))
 (brC (decide (0 ≤ posR s2 (tkR (rst s2 (Int.toNat a)) 1)) && decide (posR s2 (tkR (rst s2 (Int.toNat a)) 1) ≤ (↑(ByteArray.size s2) : Int)) && decide (ByteArray.size s2 ≤ 2000000))
 (brC (decide (0 ≤ oneV (rst s2 (Int.toNat (posR s2 (tkR (rst s2 (Int.toNat a)) 1))))) && decide (0 ≤ posR s2 (tkR (rst s2 (Int.toNat (posR s2 (tkR (rst s2 (Int.toNat a)) 1)))) 1)) && decide (posR s2 (tkR (rst s2 (Int.toNat (posR s2 (tkR (rst s2 (Int.toNat a)) 1)))) 1) ≤ (↑(ByteArray.size s2) : Int)) && decide (ByteArray.size s2 ≤ 2000000))
 (brC (decide (0 ≤ posR s2 (tkR (rst s2 (Int.toNat (posR s2 (tkR (rst s2 (Int.toNat (posR s2 (tkR (rst s2 (Int.toNat a)) 1)))) 1)))) (Int.toNat (oneV (rst s2 (Int.toNat (posR s2 (tkR (rst s2 (Int.toNat a)) 1)))))))) && decide (posR s2 (tkR (rst s2 (Int.toNat (posR s2 (tkR (rst s2 (Int.toNat (posR s2 (tkR (rst s2 (Int.toNat a)) 1)))) 1)))) (Int.toNat (oneV (rst s2 (Int.toNat (posR s2 (tkR (rst s2 (Int.toNat a)) 1))))))) ≤ (↑(ByteArray.size s2) : Int)) && decide (ByteArray.size s2 ≤ 2000000))
 (brC (decide (0 ≤ oneV (zzai0 s s2 a b n l last i)) && decide (0 ≤ posR s2 (tkR (zzai0 s s2 a b n l last i) 1)) && decide (posR s2 (tkR (zzai0 s s2 a b n l last i) 1) ≤ (↑(ByteArray.size s2) : Int)) && decide (ByteArray.size s2 ≤ 2000000))
 (brC (decide (oneV (rst s2 (Int.toNat a)) > (↑(ByteArray.size last) : Int)))
 (some (.inr (.ret, [(.pv (.str s), none), (.ptr 8192 0, some (.box [.pv PV.nils])), (.pv (.bool false), none), (.ptr 16384 0, some (.box [.pv (.str s2), .pv (.int .i64 (posR s2 (tkR (rst s2 (Int.toNat (posR s2 (tkR (zzai0 s s2 a b n l last i) 1)))) (Int.toNat (oneV (zzai0 s s2 a b n l last i)))))), .pv (.bool (zzai2 s s2 a b n l last i))])), (.ptr 24576 0, some (.box [.lst 3 88 (List.length l) (encN l) true]))])))
 (brC (decide (0 ≤ 0) && decide (0 ≤ oneV (rst s2 (Int.toNat a))) && decide (oneV (rst s2 (Int.toNat a)) ≤ (↑(ByteArray.size last) : Int)) && true && true)
 (brC (decide (ByteArray.size (ByteArray.extract last 0 (Int.toNat (oneV (rst s2 (Int.toNat a))))) + ByteArray.size (tkS (rst s2 (Int.toNat (posR s2 (tkR (rst s2 (Int.toNat (posR s2 (tkR (rst s2 (Int.toNat a)) 1)))) 1)))) (Int.toNat (oneV (rst s2 (Int.toNat (posR s2 (tkR (rst s2 (Int.toNat a)) 1))))))) ≤ 9223372036854775807) && true)
 (brC (decide (ByteArray.size (zzai1 s s2 a b n l last i) ≤ 2000) && holds (isKy (zzai1 s s2 a b n l last i)))
 (brC (Nat.beq (List.length [PV.str (Prod.fst (deKy (zzai1 s s2 a b n l last i))), PV.sl (List.length (Prod.snd (deKy (zzai1 s s2 a b n l last i)))) (List.map PV.str (Prod.snd (deKy (zzai1 s s2 a b n l last i)))), PV.str (tkS (rst s2 (Int.toNat (posR s2 (tkR (zzai0 s s2 a b n l last i) 1)))) (Int.toNat (oneV (zzai0 s s2 a b n l last i))))]) (1 * 3) && (decide (List.length l + 1 ≤ 140737488351232) && decide ((List.length l + 1) * 56 ≤ 140737488355328)))
 (some (.inl [(.pv (.str s), none), (.ptr 8192 0, some (.box [.pv PV.nils])), (.ptr 16384 0, some (.box [.pv (.str s2), .pv (.int .i64 (posR s2 (tkR (rst s2 (Int.toNat (posR s2 (tkR (zzai0 s s2 a b n l last i) 1)))) (Int.toNat (oneV (zzai0 s s2 a b n l last i)))))), .pv (.bool (zzai2 s s2 a b n l last i))])), (.pv (.int .i64 n), none), (.ptr 24576 0, some (.box [.lst 3 88 (List.length l + 1) (encN l ++ [PV.str (Prod.fst (deKy (zzai1 s s2 a b n l last i))), PV.sl (List.length (Prod.snd (deKy (zzai1 s s2 a b n l last i)))) (List.map PV.str (Prod.snd (deKy (zzai1 s s2 a b n l last i)))), PV.str (tkS (rst s2 (Int.toNat (posR s2 (tkR (zzai0 s s2 a b n l last i) 1)))) (Int.toNat (oneV (zzai0 s s2 a b n l last i))))]) true])), (.pv (.str (zzai1 s s2 a b n l last i)), none), (.pv (.int .i64 (IntKind.wrap .i64 (i + 1))), none)]))
 none)
 (brC (decide (ByteArray.size (zzai1 s s2 a b n l last i) ≤ 2000))
 (some (.inr (.ret, [(.pv (.str s), none), (.ptr 8192 0, some (.box [.pv PV.nils])), (.pv (.bool false), none), (.ptr 16384 0, some (.box [.pv (.str s2), .pv (.int .i64 (posR s2 (tkR (rst s2 (Int.toNat (posR s2 (tkR (zzai0 s s2 a b n l last i) 1)))) (Int.toNat (oneV (zzai0 s s2 a b n l last i)))))), .pv (.bool (zzai2 s s2 a b n l last i))])), (.ptr 24576 0, some (.box [.lst 3 88 (List.length l) (encN l) true]))])))
 none))
 none)
 none))
 none)
 none)
 none)
 none)
 none)
 (some (.inr (.exit 0, [(.pv (.str s), none), (.ptr 8192 0, some (.box [.pv PV.nils])), (.bad, none), (.ptr 16384 0, some (.box [.pv (.str s2), .pv (.int .i64 a), .pv (.bool b)])), (.ptr 24576 0, some (.box [.lst 3 88 (List.length l) (encN l) true]))]))))
 (some (.inr (.exit 0, [(.pv (.str s), none), (.ptr 8192 0, some (.box [.pv PV.nils])), (.bad, none), (.ptr 16384 0, some (.box [.pv (.str s2), .pv (.int .i64 a), .pv (.bool b)])), (.ptr 24576 0, some (.box [.lst 3 88 (List.length l) (encN l) true]))]))) := by kernel_rfl
noncomputable def zzaj0 (s : ByteArray) (r : ByteArray) (b : Bool) (last : ByteArray) (n : Int) := (ByteArray.extract last 0 (Int.toNat (bif bif false then decide ((↑(ByteArray.size last) : Int) > oneV r) else decide ((↑(ByteArray.size last) : Int) < oneV r) then (↑(ByteArray.size last) : Int) else oneV r)) ++ tkS (tkR (tkR r 1) 1) (Int.toNat (oneV (tkR r 1))))
noncomputable def zzaj1 (s : ByteArray) (r : ByteArray) (b : Bool) (last : ByteArray) (n : Int) := (tkR (tkR (tkR r 1) 1) (Int.toNat (oneV (tkR r 1))))
theorem jlE (s : ByteArray) (r : ByteArray) (b : Bool) (last : ByteArray) (n : Int) : r_un0 brC s r b last n =
 brC (decide (n > 0))
 (brC (!b)
 (brC (decide (ByteArray.size r ≤ 2000000))
 (brC (decide (0 ≤ 0) && decide (0 ≤ bif bif false then decide ((↑(ByteArray.size last) : Int) > oneV r) else decide ((↑(ByteArray.size last) : Int) < oneV r) then (↑(ByteArray.size last) : Int) else oneV r) && decide ((bif bif false then decide ((↑(ByteArray.size last) : Int) > oneV r) else decide ((↑(ByteArray.size last) : Int) < oneV r) then (↑(ByteArray.size last) : Int) else oneV r) ≤ (↑(ByteArray.size last) : Int)) && true && true)
 (brC (decide (ByteArray.size (tkR r 1) ≤ 2000000))
 (brC (decide (0 ≤ oneV (tkR r 1)) && decide (ByteArray.size (tkR (tkR r 1) 1) ≤ 2000000))
 (brC (decide (ByteArray.size (ByteArray.extract last 0 (Int.toNat (bif bif false then decide ((↑(ByteArray.size last) : Int) > oneV r) else decide ((↑(ByteArray.size last) : Int) < oneV r) then (↑(ByteArray.size last) : Int) else oneV r))) + ByteArray.size (tkS (tkR (tkR r 1) 1) (Int.toNat (oneV (tkR r 1)))) ≤ 9223372036854775807) && true)
 (brC (decide (ByteArray.size (zzaj0 s r b last n) ≤ 2000) && holds (isKy (zzaj0 s r b last n)))
 (brC (decide (ByteArray.size (zzaj1 s r b last n) ≤ 2000000))
 (brC (decide (0 ≤ oneV (zzaj1 s r b last n)) && decide (ByteArray.size (tkR (zzaj1 s r b last n) 1) ≤ 2000000))
 (some (.inl [(.pv (.str s), none), (.ptr 8192 0, some (.box [.pv PV.nils])), (.ptr 16384 0, some (.box [.pv (.str (tkR (tkR (zzaj1 s r b last n) 1) (Int.toNat (oneV (zzaj1 s r b last n))))), .pv (.bool (tkB (tkR (zzaj1 s r b last n) 1) (tkB (zzaj1 s r b last n) (tkB (tkR (tkR r 1) 1) (tkB (tkR r 1) (tkB r b 1) 1) (Int.toNat (oneV (tkR r 1)))) 1) (Int.toNat (oneV (zzaj1 s r b last n)))))])), (.ptr 20480 0, some (.box [.dls 3 88 1 [PV.str (Prod.fst (deKy (zzaj0 s r b last n))), PV.sl (List.length (Prod.snd (deKy (zzaj0 s r b last n)))) (List.map PV.str (Prod.snd (deKy (zzaj0 s r b last n)))), PV.str (tkS (tkR (zzaj1 s r b last n) 1) (Int.toNat (oneV (zzaj1 s r b last n))))]])), (.pv (.str (zzaj0 s r b last n)), none), (.pv (.int .i64 (IntKind.wrap .i64 (n - 1))), none)]))
 none)
 none)
 (brC (decide (ByteArray.size (zzaj0 s r b last n) ≤ 2000))
 (brC (decide (ByteArray.size (zzaj1 s r b last n) ≤ 2000000))
 (brC (decide (0 ≤ oneV (zzaj1 s r b last n)) && decide (ByteArray.size (tkR (zzaj1 s r b last n) 1) ≤ 2000000))
 (some (.inl [(.pv (.str s), none), (.ptr 8192 0, some (.box [.pv PV.nils])), (.ptr 16384 0, some (.box [.pv (.str (tkR (tkR (zzaj1 s r b last n) 1) (Int.toNat (oneV (zzaj1 s r b last n))))), .pv (.bool (tkB (tkR (zzaj1 s r b last n) 1) (tkB (zzaj1 s r b last n) (tkB (tkR (tkR r 1) 1) (tkB (tkR r 1) (tkB r b 1) 1) (Int.toNat (oneV (tkR r 1)))) 1) (Int.toNat (oneV (zzaj1 s r b last n)))))])), (.ptr 20480 0, some (.box [.dls 3 88 1 [PV.str { data := #[] }, PV.sl 0 [], PV.str (tkS (tkR (zzaj1 s r b last n) 1) (Int.toNat (oneV (zzaj1 s r b last n))))]])), (.pv (.str (zzaj0 s r b last n)), none), (.pv (.int .i64 (IntKind.wrap .i64 (n - 1))), none)]))
 none)
 none)
 none))
 none)
 none)
 none)
 none)
 none)
 (some (.inr (.exit 0, [(.pv (.str s), none), (.ptr 8192 0, some (.box [.pv PV.nils])), (.ptr 16384 0, some (.box [.pv (.str r), .pv (.bool b)])), (.ptr 20480 0, some (.box [.pv PV.nils]))]))))
 (some (.inr (.exit 0, [(.pv (.str s), none), (.ptr 8192 0, some (.box [.pv PV.nils])), (.ptr 16384 0, some (.box [.pv (.str r), .pv (.bool b)])), (.ptr 20480 0, some (.box [.pv PV.nils]))]))) := by kernel_rfl
noncomputable def zzak0 (s : ByteArray) (r : ByteArray) (b : Bool) (l : List NodeT) (last : ByteArray) (n : Int) := (ByteArray.extract last 0 (Int.toNat (bif bif false then decide ((↑(ByteArray.size last) : Int) > oneV r) else decide ((↑(ByteArray.size last) : Int) < oneV r) then (↑(ByteArray.size last) : Int) else oneV r)) ++ tkS (tkR (tkR r 1) 1) (Int.toNat (oneV (tkR r 1))))
noncomputable def zzak1 (s : ByteArray) (r : ByteArray) (b : Bool) (l : List NodeT) (last : ByteArray) (n : Int) := (tkR (tkR (tkR r 1) 1) (Int.toNat (oneV (tkR r 1))))
theorem jjF (s : ByteArray) (r : ByteArray) (b : Bool) (l : List NodeT) (last : ByteArray) (n : Int) : r_un brC s r b l last n =
 brC (decide (n > 0))
 (brC (!b)
 (brC (decide (ByteArray.size r ≤ 2000000))
 (brC (decide (0 ≤ 0) && decide (0 ≤ bif bif false then decide ((↑(ByteArray.size last) : Int) > oneV r) else decide ((↑(ByteArray.size last) : Int) < oneV r) then (↑(ByteArray.size last) : Int) else oneV r) && decide ((bif bif false then decide ((↑(ByteArray.size last) : Int) > oneV r) else decide ((↑(ByteArray.size last) : Int) < oneV r) then (↑(ByteArray.size last) : Int) else oneV r) ≤ (↑(ByteArray.size last) : Int)) && true && true)
 (brC (decide (ByteArray.size (tkR r 1) ≤ 2000000))
 (brC (decide (0 ≤ oneV (tkR r 1)) && decide (ByteArray.size (tkR (tkR r 1) 1) ≤ 2000000))
 (brC (decide (ByteArray.size (ByteArray.extract last 0 (Int.toNat (bif bif false then decide ((↑(ByteArray.size last) : Int) > oneV r) else decide ((↑(ByteArray.size last) : Int) < oneV r) then (↑(ByteArray.size last) : Int) else oneV r))) + ByteArray.size (tkS (tkR (tkR r 1) 1) (Int.toNat (oneV (tkR r 1)))) ≤ 9223372036854775807) && true)
 (brC (decide (ByteArray.size (zzak0 s r b l last n) ≤ 2000) && holds (isKy (zzak0 s r b l last n)))
 (brC (decide (ByteArray.size (zzak1 s r b l last n) ≤ 2000000))
 (brC (decide (0 ≤ oneV (zzak1 s r b l last n)) && decide (ByteArray.size (tkR (zzak1 s r b l last n) 1) ≤ 2000000))
 (brC (decide (List.length l + 1 ≤ 140737488351232) && decide ((List.length l + 1) * 56 ≤ 140737488355328))
 (some (.inl [(.pv (.str s), none), (.ptr 8192 0, some (.box [.pv PV.nils])), (.ptr 16384 0, some (.box [.pv (.str (tkR (tkR (zzak1 s r b l last n) 1) (Int.toNat (oneV (zzak1 s r b l last n))))), .pv (.bool (tkB (tkR (zzak1 s r b l last n) 1) (tkB (zzak1 s r b l last n) (tkB (tkR (tkR r 1) 1) (tkB (tkR r 1) (tkB r b 1) 1) (Int.toNat (oneV (tkR r 1)))) 1) (Int.toNat (oneV (zzak1 s r b l last n)))))])), (.ptr 20480 0, some (.box [.dls 3 88 (List.length l + 1) (encN l ++ [PV.str (Prod.fst (deKy (zzak0 s r b l last n))), PV.sl (List.length (Prod.snd (deKy (zzak0 s r b l last n)))) (List.map PV.str (Prod.snd (deKy (zzak0 s r b l last n)))), PV.str (tkS (tkR (zzak1 s r b l last n) 1) (Int.toNat (oneV (zzak1 s r b l last n))))])])), (.pv (.str (zzak0 s r b l last n)), none), (.pv (.int .i64 (IntKind.wrap .i64 (n - 1))), none)]))
 none)
 none)
 none)
 (brC (decide (ByteArray.size (zzak0 s r b l last n) ≤ 2000))
 (brC (decide (ByteArray.size (zzak1 s r b l last n) ≤ 2000000))
 (brC (decide (0 ≤ oneV (zzak1 s r b l last n)) && decide (ByteArray.size (tkR (zzak1 s r b l last n) 1) ≤ 2000000))
 (brC (decide (List.length l + 1 ≤ 140737488351232) && decide ((List.length l + 1) * 56 ≤ 140737488355328))
 (some (.inl [(.pv (.str s), none), (.ptr 8192 0, some (.box [.pv PV.nils])), (.ptr 16384 0, some (.box [.pv (.str (tkR (tkR (zzak1 s r b l last n) 1) (Int.toNat (oneV (zzak1 s r b l last n))))), .pv (.bool (tkB (tkR (zzak1 s r b l last n) 1) (tkB (zzak1 s r b l last n) (tkB (tkR (tkR r 1) 1) (tkB (tkR r 1) (tkB r b 1) 1) (Int.toNat (oneV (tkR r 1)))) 1) (Int.toNat (oneV (zzak1 s r b l last n)))))])), (.ptr 20480 0, some (.box [.dls 3 88 (List.length l + 1) (encN l ++ [PV.str { data := #[] }, PV.sl 0 [], PV.str (tkS (tkR (zzak1 s r b l last n) 1) (Int.toNat (oneV (zzak1 s r b l last n))))])])), (.pv (.str (zzak0 s r b l last n)), none), (.pv (.int .i64 (IntKind.wrap .i64 (n - 1))), none)]))
 none)
 none)
 none)
 none))
 none)
 none)
 none)
 none)
 none)
 (some (.inr (.exit 0, [(.pv (.str s), none), (.ptr 8192 0, some (.box [.pv PV.nils])), (.ptr 16384 0, some (.box [.pv (.str r), .pv (.bool b)])), (.ptr 20480 0, some (.box [.dls 3 88 (List.length l) (encN l)]))]))))
 (some (.inr (.exit 0, [(.pv (.str s), none), (.ptr 8192 0, some (.box [.pv PV.nils])), (.ptr 16384 0, some (.box [.pv (.str r), .pv (.bool b)])), (.ptr 20480 0, some (.box [.dls 3 88 (List.length l) (encN l)]))]))) := by kernel_rfl
end
section
open Go.RowKit
theorem brT {R : Type} (x y : Option R) : brC true x y = x := rfl
theorem brF {R : Type} (x y : Option R) : brC false x y = y := rfl
theorem minX (a v : Int) (ha : 0 ≤ a) (hv : 0 ≤ v) : (bif bif false then decide (a > v) else decide (a < v) then a else v) = ((min v.toNat a.toNat : Nat) : Int) := by
  by_cases h : a < v
  · rw [show (bif false then decide (a > v) else decide (a < v)) = true from decide_eq_true h, Nat.min_eq_right (by omega)]
    show a = _
    omega
  · rw [show (bif false then decide (a > v) else decide (a < v)) = false from decide_eq_false h, Nat.min_eq_left (by omega)]
    show v = _
    omega
theorem jow (r last : ByteArray) : last.extract 0 (min (oneV r).toNat last.size) ++ tkS (tkR (tkR r 1) 1) (oneV (tkR r 1)).toNat = ukey r last := rfl
theorem jpL (last : ByteArray) (n : Int) : (ucut last n).size ≤ n.toNat := by unfold ucut; rw [ByteArray.size_extract]; omega
theorem jcN (r last : ByteArray) : (ukey r last).size ≤ 510 := by
  have h1 := jpL last (oneV r)
  have h2 := ja9 r
  have h3 := jq7 (tkR r 1)
  unfold ukey
  rw [ByteArray.size_append]
  omega
theorem uR_sz (r : ByteArray) : (uR r).size ≤ r.size := Nat.le_trans (jlg _) (Nat.le_trans (jlg _) (jdi _ _))
theorem jsb : jaf Tryz.prog rbb0 := ⟨jnl, jrs, jp5, jsJ, trivial⟩
theorem jeO (x : NodeT) : encN [x] = [PV.str x.name, PV.sl x.subs.length (x.subs.map PV.str), PV.str x.value] := rfl
theorem jqM (s r last : ByteArray) (m : Nat) (hr : r.size ≤ 2000000) (hm : m ≤ 300) :
    rdB brC Tryz.prog rbb0 lp_un LO_un Tryz.f9 3 [] [aS s, aT0 2, aRd 4 r false, aT0 5, aS last, aI ((m + 1 : Nat) : Int)] = some (.inl [aS s, aT0 2, aRd 4 (uR r) (uB r false), aTd 5 ([uN r last]), aS (ukey r last), aI m]) := by
  have tree := jlE s r false last ((m + 1 : Nat) : Int)
  revert tree; try delta zzaj1; intro tree
  revert tree; try delta zzaj0; intro tree
  have w1 : IntKind.wrap .i64 (((m + 1 : Nat) : Int) - 1) = (m : Int) := by rw [wrapI (by omega) (by omega)]; omega
  have o1 := ja9 r
  have o2 := ja9 (tkR r 1)
  have o3 := ja9 (t1R (tkR r 1))
  have z1 := jdi r 1
  have z2 := jdi (tkR r 1) 1
  have z3 := jlg (tkR r 1)
  have z4 := jdi (t1R (tkR r 1)) 1
  have zk := jcN r last
  have h1 : tkR (tkR (tkR r 1) 1) (oneV (tkR r 1)).toNat = t1R (tkR r 1) := rfl
  have h2 : tkR (tkR (t1R (tkR r 1)) 1) (oneV (t1R (tkR r 1))).toNat = uR r := rfl
  have h3 : tkS (tkR (t1R (tkR r 1)) 1) (oneV (t1R (tkR r 1))).toNat = t1S (t1R (tkR r 1)) := rfl
  have h4 : tkB (tkR (t1R (tkR r 1)) 1) (tkB (t1R (tkR r 1)) (tkB (tkR (tkR r 1) 1) (tkB (tkR r 1) (tkB r false 1) 1) (oneV (tkR r 1)).toNat) 1) (oneV (t1R (tkR r 1))).toNat = uB r false := rfl
  have zk2 : (last.extract 0 (min (oneV r).toNat last.size)).size + (tkS (tkR (tkR r 1) 1) (oneV (tkR r 1)).toNat).size ≤ 510 := by rw [← ByteArray.size_append]; exact zk
  have xz : 0 ≤ ((min (oneV r).toNat last.size : Nat) : Int) := by omega
  have xl : ((min (oneV r).toNat last.size : Nat) : Int) ≤ (last.size : Int) := by omega
  rw [minX (last.size : Int) (oneV r) (by omega) o1.1, Int.toNat_natCast (min (oneV r).toNat (last.size : Int).toNat), Int.toNat_natCast last.size, jow, h1, h2, h3, h4, w1] at tree
  simp (disch := omega) only [dT, decide_true, Bool.and_true, Bool.true_and, Bool.not_false] at tree
  unfold aTd
  rw [jeO, List.length_singleton]
  unfold uN kName kSubs
  cases hk : holds (isKy (ukey r last)) with
  | true =>
    rw [hk] at tree
    simp only [brT, brF, Bool.and_true, Bool.and_false] at tree
    dsimp only [cond_true, cond_false, List.length_nil, List.map_nil]
    exact tree
  | false =>
    rw [hk] at tree
    simp only [brT, brF, Bool.and_true, Bool.and_false] at tree
    dsimp only [cond_true, cond_false, List.length_nil, List.map_nil]
    exact tree
theorem jr7 (s r last : ByteArray) (l : List NodeT) (m : Nat) (hr : r.size ≤ 2000000) (hl : l.length ≤ 300) (hm : m ≤ 300) :
    rdB brC Tryz.prog rbb0 lp_un LO_un Tryz.f9 3 [] [aS s, aT0 2, aRd 4 r false, aTd 5 l, aS last, aI ((m + 1 : Nat) : Int)] = some (.inl [aS s, aT0 2, aRd 4 (uR r) (uB r false), aTd 5 (l ++ [uN r last]), aS (ukey r last), aI m]) := by
  have tree := jjF s r false l last ((m + 1 : Nat) : Int)
  revert tree; try delta zzak1; intro tree
  revert tree; try delta zzak0; intro tree
  have w1 : IntKind.wrap .i64 (((m + 1 : Nat) : Int) - 1) = (m : Int) := by rw [wrapI (by omega) (by omega)]; omega
  have o1 := ja9 r
  have o2 := ja9 (tkR r 1)
  have o3 := ja9 (t1R (tkR r 1))
  have z1 := jdi r 1
  have z2 := jdi (tkR r 1) 1
  have z3 := jlg (tkR r 1)
  have z4 := jdi (t1R (tkR r 1)) 1
  have zk := jcN r last
  have h1 : tkR (tkR (tkR r 1) 1) (oneV (tkR r 1)).toNat = t1R (tkR r 1) := rfl
  have h2 : tkR (tkR (t1R (tkR r 1)) 1) (oneV (t1R (tkR r 1))).toNat = uR r := rfl
  have h3 : tkS (tkR (t1R (tkR r 1)) 1) (oneV (t1R (tkR r 1))).toNat = t1S (t1R (tkR r 1)) := rfl
  have h4 : tkB (tkR (t1R (tkR r 1)) 1) (tkB (t1R (tkR r 1)) (tkB (tkR (tkR r 1) 1) (tkB (tkR r 1) (tkB r false 1) 1) (oneV (tkR r 1)).toNat) 1) (oneV (t1R (tkR r 1))).toNat = uB r false := rfl
  have zk2 : (last.extract 0 (min (oneV r).toNat last.size)).size + (tkS (tkR (tkR r 1) 1) (oneV (tkR r 1)).toNat).size ≤ 510 := by rw [← ByteArray.size_append]; exact zk
  have xz : 0 ≤ ((min (oneV r).toNat last.size : Nat) : Int) := by omega
  have xl : ((min (oneV r).toNat last.size : Nat) : Int) ≤ (last.size : Int) := by omega
  rw [minX (last.size : Int) (oneV r) (by omega) o1.1, Int.toNat_natCast (min (oneV r).toNat (last.size : Int).toNat), Int.toNat_natCast last.size, jow, h1, h2, h3, h4, w1] at tree
  simp (disch := omega) only [dT, decide_true, Bool.and_true, Bool.true_and, Bool.not_false] at tree
  unfold aTd
  rw [jhv, List.length_append, jeO, List.length_singleton]
  unfold uN kName kSubs
  cases hk : holds (isKy (ukey r last)) with
  | true =>
    rw [hk] at tree
    simp only [brT, brF, Bool.and_true, Bool.and_false] at tree
    dsimp only [cond_true, cond_false, List.length_nil, List.map_nil]
    exact tree
  | false =>
    rw [hk] at tree
    simp only [brT, brF, Bool.and_true, Bool.and_false] at tree
    dsimp only [cond_true, cond_false, List.length_nil, List.map_nil]
    exact tree
theorem jsW (s : ByteArray) : ∀ (m : Nat) (r : ByteArray) (b : Bool) (last : ByteArray) (l : List NodeT), r.size ≤ 2000000 → l.length + m ≤ 300 →
    LoopsTo (rdB brC Tryz.prog rbb0 lp_un LO_un Tryz.f9 3 []) [aS s, aT0 2, aRd 4 r b, aTd 5 l, aS last, aI m] (.exit 0, [aS s, aT0 2, aRd 4 (unN m r b last l).1 (unN m r b last l).2.1, aTd 5 (unN m r b last l).2.2]) := by
  intro m
  induction m with
  | zero =>
    intro r b last l hr hl
    refine .done _ _ ((jjF s r b l last _).trans ?_)
    try delta zzak1
    try delta zzak0
    rw [dF (show ¬ ((0 : Nat) : Int) > 0 by omega)]
    rfl
  | succ m ih =>
    intro r b last l hr hl
    unfold unN
    cases b with
    | true =>
      rw [if_pos rfl]
      refine .done _ _ ((jjF s r true l last _).trans ?_)
      try delta zzak1
      try delta zzak0
      rw [dT (show ((m + 1 : Nat) : Int) > 0 by omega)]
      rfl
    | false =>
      rw [if_neg Bool.false_ne_true]
      have := ih (uR r) (uB r false) (ukey r last) (l ++ [uN r last]) (Nat.le_trans (uR_sz r) hr) (by rw [List.length_append, List.length_singleton]; omega)
      exact .step _ _ _ (jr7 s r last l m hr (by omega) (by omega)) this
theorem jqc (s r : ByteArray) (m : Nat) (hr : r.size ≤ 2000000) (hm : m + 1 ≤ 255) :
    LoopsTo (rdB brC Tryz.prog rbb0 lp_un LO_un Tryz.f9 3 []) [aS s, aT0 2, aRd 4 r false, aT0 5, aS ⟨#[]⟩, aI ((m + 1 : Nat) : Int)] (.exit 0, [aS s, aT0 2, aRd 4 (unN (m + 1) r false ⟨#[]⟩ []).1 (unN (m + 1) r false ⟨#[]⟩ []).2.1, aTd 5 (unN (m + 1) r false ⟨#[]⟩ []).2.2]) := by
  have := jsW s m (uR r) (uB r false) (ukey r ⟨#[]⟩) [uN r ⟨#[]⟩] (Nat.le_trans (uR_sz r) hr) (by show 1 + m ≤ 300; omega)
  have e : unN (m + 1) r false ⟨#[]⟩ [] = unN m (uR r) (uB r false) (ukey r ⟨#[]⟩) [uN r ⟨#[]⟩] := by
    conv => lhs; unfold unN
    rw [if_neg Bool.false_ne_true]
    rfl
  rw [e]
  exact .step _ _ _ (jqM s r ⟨#[]⟩ m hr (by omega)) this
theorem jie {s : ByteArray} {xs : List ByteArray} (hp : jaG s xs = true) : (keyV2 s xs).size ≤ 255 := by
  rw [jdH, if_pos hp, ja5]
  obtain ⟨h1, h2⟩ := jbB hp
  obtain ⟨h3, h4⟩ := jbv h2
  have h6 := jdX h1
  have h5 := jmv xs h3 h4
  rw [jab] at h6
  unfold keyL
  rw [List.length_append, List.length_cons]
  omega
theorem jmp (last key : ByteArray) : last.extract 0 (jak last key) ++ key.extract (jak last key) key.size = key := by
  obtain ⟨_, _, h⟩ := jjP last.data.toList key.data.toList
  refine ByteArray.ext (Array.ext' ?_)
  rw [ByteArray.data_append, Array.toList_append, jao, jao, List.drop_zero]
  unfold jak
  rw [h, jab, List.take_length, List.take_append_drop]
theorem jn3 (n : NodeT) (last r : ByteArray) (h : nodeB n = true) : uR (nodV last n ++ r) = r ∧ uB (nodV last n ++ r) false = false ∧ ukey (nodV last n ++ r) last = keyV2 n.name n.subs ∧ uN (nodV last n ++ r) last = n := by
  obtain ⟨hp, hv⟩ := jcb h
  have hkz := jie hp
  obtain ⟨c1, c2⟩ := jdL last (keyV2 n.name n.subs)
  have hxz : ((keyV2 n.name n.subs).extract (jak last (keyV2 n.name n.subs)) (keyV2 n.name n.subs).size).size ≤ 255 := by rw [ByteArray.size_extract]; omega
  have e : nodV last n ++ r = litV (jak last (keyV2 n.name n.subs) : Int) 1 ++ (jaI ((keyV2 n.name n.subs).extract (jak last (keyV2 n.name n.subs)) (keyV2 n.name n.subs).size) ++ (jaI n.value ++ r)) := by
    rw [jff, ByteArray.append_assoc, ByteArray.append_assoc]
  have o1 : oneV (nodV last n ++ r) = jak last (keyV2 n.name n.subs) := by rw [e, jeN _ _ (by omega)]
  have q1 : tkR (nodV last n ++ r) 1 = jaI ((keyV2 n.name n.subs).extract (jak last (keyV2 n.name n.subs)) (keyV2 n.name n.subs).size) ++ (jaI n.value ++ r) := by rw [e, jfO _ _ (jaB _ _).symm]
  have q2 : tkB (nodV last n ++ r) false 1 = false := by rw [e, jhe _ _ _ (jaB _ _).symm]
  obtain ⟨a1, a2, a3⟩ := jlu ((keyV2 n.name n.subs).extract (jak last (keyV2 n.name n.subs)) (keyV2 n.name n.subs).size) (jaI n.value ++ r) hxz
  obtain ⟨b1, b2, b3⟩ := jlu n.value r (by omega)
  have hk : ukey (nodV last n ++ r) last = keyV2 n.name n.subs := by
    unfold ukey ucut
    rw [o1, q1, a1, Int.toNat_natCast, Nat.min_eq_left c1, jmp]
  have hke : keyV2 n.name n.subs = bs (keyL n.name n.subs) := by rw [jdH, if_pos hp]
  have hdat : (bs (keyL n.name n.subs)).data.toList = keyL n.name n.subs := jaC _
  have hky : holds (isKy (bs (keyL n.name n.subs))) = true := jag ⟨(n.name, n.subs), hdat, hp⟩
  have hde : deKy (bs (keyL n.name n.subs)) = (n.name, n.subs) := jhg hdat hp
  refine ⟨?_, ?_, hk, ?_⟩
  · unfold uR
    rw [q1, a2, b2]
  · unfold uB
    rw [q1, q2, a2, a3, b3]
  · unfold uN kName kSubs
    rw [hk, hke, hky, hde, q1, a2, b1]
    rfl
theorem jd1 : ∀ (t : List NodeT) (s last : ByteArray), nodsT s last t = s ++ nodsT ⟨#[]⟩ last t
  | [], s, last => by unfold nodsT; rw [jpw]
  | n :: t, s, last => by
    unfold nodsT
    rw [jd1 t (s ++ nodV last n), jd1 t (⟨#[]⟩ ++ nodV last n), jhS, ByteArray.append_assoc]
theorem jgx (n : NodeT) (t : List NodeT) (last r : ByteArray) : nodsT ⟨#[]⟩ last (n :: t) ++ r = nodV last n ++ (nodsT ⟨#[]⟩ (keyV2 n.name n.subs) t ++ r) := by
  rw [show nodsT ⟨#[]⟩ last (n :: t) = nodsT (⟨#[]⟩ ++ nodV last n) (keyV2 n.name n.subs) t from rfl, jhS, jd1, ByteArray.append_assoc]
theorem jll : ∀ (t pre : List NodeT) (r last : ByteArray), (∀ n ∈ t, nodeB n = true) → unN t.length (nodsT ⟨#[]⟩ last t ++ r) false last pre = (r, false, pre ++ t)
  | [], pre, r, last, _ => by
    unfold nodsT
    rw [jhS, List.append_nil]
    rfl
  | n :: t, pre, r, last, h => by
    have ih := jll t (pre ++ [n]) r (keyV2 n.name n.subs) fun i hi => h i (List.mem_cons_of_mem _ hi)
    obtain ⟨u1, u2, u3, u4⟩ := jn3 n last (nodsT ⟨#[]⟩ (keyV2 n.name n.subs) t ++ r) (h n (List.mem_cons_self ..))
    rw [jgx, List.length_cons]
    unfold unN
    rw [if_neg Bool.false_ne_true, u1, u2, u3, u4, ih, List.append_assoc]
    rfl
theorem jk9 : ∀ (t pre : List NodeT) (r last : ByteArray), (∀ n ∈ t, nodeB n = true) → unS t.length (nodsT ⟨#[]⟩ last t ++ r) false last pre = (true, r, false, pre ++ t)
  | [], pre, r, last, _ => by
    unfold nodsT
    rw [jhS, List.append_nil]
    rfl
  | n :: t, pre, r, last, h => by
    have hn := h n (List.mem_cons_self ..)
    have ih := jk9 t (pre ++ [n]) r (keyV2 n.name n.subs) fun i hi => h i (List.mem_cons_of_mem _ hi)
    obtain ⟨u1, u2, u3, u4⟩ := jn3 n last (nodsT ⟨#[]⟩ (keyV2 n.name n.subs) t ++ r) hn
    obtain ⟨hp, hv⟩ := jcb hn
    obtain ⟨c1, c2⟩ := jdL last (keyV2 n.name n.subs)
    have hkz := jie hp
    have o1 : oneV (nodV last n ++ (nodsT ⟨#[]⟩ (keyV2 n.name n.subs) t ++ r)) = jak last (keyV2 n.name n.subs) := by
      rw [jff, ByteArray.append_assoc, ByteArray.append_assoc, jeN _ _ (by omega)]
    have hky : holds (isKy (keyV2 n.name n.subs)) = true := by
      rw [jdH, if_pos hp]
      exact jag ⟨(n.name, n.subs), jaC _, hp⟩
    rw [jgx, List.length_cons]
    unfold unS
    rw [o1, dF (show ¬ ((jak last (keyV2 n.name n.subs) : Nat) : Int) > (last.size : Int) by omega), u1, u2, u3, u4, hky]
    simp only [cond_true, cond_false]
    rw [ih, List.append_assoc]
    rfl
theorem jb9 {t : List NodeT} (h : treeB t = true) : oneV (packV t) = t.length ∧ tkB (packV t) false 1 = false ∧ unN t.length (tkR (packV t) 1) false ⟨#[]⟩ [] = (⟨#[]⟩, false, t) ∧ unS t.length (tkR (packV t) 1) false ⟨#[]⟩ [] = (true, ⟨#[]⟩, false, t) ∧ 1 ≤ (packV t).size := by
  obtain ⟨h120, hall, _⟩ := jc6 h
  have e : packV t = litV (t.length : Int) 1 ++ (nodsT ⟨#[]⟩ ⟨#[]⟩ t ++ ⟨#[]⟩) := by rw [jeW, if_pos h, jd1, jpw]
  rw [e]
  refine ⟨jeN t.length _ (by omega), jhe _ _ _ (jaB _ _).symm, ?_, ?_, ?_⟩
  · rw [jfO _ _ (jaB _ _).symm, jll t [] ⟨#[]⟩ ⟨#[]⟩ hall]
    rfl
  · rw [jfO _ _ (jaB _ _).symm, jk9 t [] ⟨#[]⟩ ⟨#[]⟩ hall]
    rfl
  · rw [ByteArray.size_append, jaB]
    omega
theorem joh {t u : List NodeT} (ht : treeB t = true) (hu : treeB u = true) (h : packV t = packV u) : t = u := by
  obtain ⟨a1, _, a3, _, _⟩ := jb9 ht
  obtain ⟨b1, _, b3, _, _⟩ := jb9 hu
  rw [h] at a1 a3
  have hl : t.length = u.length := by omega
  rw [hl] at a3
  have := a3.symm.trans b3
  injection this with _ h2
  injection h2 with _ h3
theorem jfC {t : List NodeT} (ht : treeB t = true) : decT (packV t) = t := by
  have h := @Classical.epsilon_spec _ (fun u : List NodeT => treeB u = true ∧ packV t = packV u) ⟨t, ht, rfl⟩
  exact (joh ht h.1 h.2).symm
theorem jh3 (a v : ByteArray) (ha : a.size ≤ 510) (hv : v.size ≤ 255) : shN ⟨kName a, kSubs a, v⟩ := by
  unfold kName kSubs
  cases hk : holds (isKy a) with
  | false => exact ⟨Nat.zero_le _, ⟨Nat.zero_le _, fun _ h => by cases h⟩, by show v.size ≤ 1000000; omega⟩
  | true =>
    obtain ⟨⟨nm, sb⟩, h1, h2⟩ := jai hk
    rw [jhg h1 h2]
    obtain ⟨n1, n2⟩ := jbB h2
    have : nm.size ≤ 8 := jdX n1
    exact ⟨by show nm.size ≤ 1000000; omega, jpN n2, by show v.size ≤ 1000000; omega⟩
theorem uN_sh (r last : ByteArray) : shN (uN r last) := jh3 _ _ (jcN r last) (jq7 _)
theorem jrj : ∀ (m : Nat) (r : ByteArray) (b : Bool) (last : ByteArray) (l : List NodeT), (∀ x ∈ l, shN x) → (∀ x ∈ (unN m r b last l).2.2, shN x) ∧ (unN m r b last l).2.2.length ≤ l.length + m
  | 0, r, b, last, l, h => ⟨h, Nat.le_refl _⟩
  | m + 1, r, b, last, l, h => by
    unfold unN
    split
    · exact ⟨h, by dsimp only; omega⟩
    · obtain ⟨h1, h2⟩ := jrj m (uR r) (uB r b) (ukey r last) (l ++ [uN r last]) fun x hx => by
        rcases List.mem_append.1 hx with hx | hx
        · exact h x hx
        · rw [List.mem_singleton.1 hx]; exact uN_sh r last
      rw [List.length_append, List.length_singleton] at h2
      exact ⟨h1, by omega⟩
theorem jq9 : ∀ (m : Nat) (r : ByteArray) (b : Bool) (last : ByteArray) (l : List NodeT), (∀ x ∈ l, shN x) → (∀ x ∈ (unS m r b last l).2.2.2, shN x) ∧ (unS m r b last l).2.2.2.length ≤ l.length + m
  | 0, r, b, last, l, h => ⟨h, Nat.le_refl _⟩
  | m + 1, r, b, last, l, h => by
    unfold unS
    cases b with
    | true => exact ⟨h, by simp⟩
    | false =>
      rw [cond_false]
      cases decide (oneV r > (last.size : Int)) with
      | true => exact ⟨h, by simp⟩
      | false =>
        rw [cond_false]
        cases holds (isKy (ukey r last)) with
        | false => exact ⟨h, by simp⟩
        | true =>
          rw [cond_true]
          obtain ⟨h1, h2⟩ := jq9 m (uR r) (uB r false) (ukey r last) (l ++ [uN r last]) fun x hx => by
            rcases List.mem_append.1 hx with hx | hx
            · exact h x hx
            · rw [List.mem_singleton.1 hx]; exact uN_sh r last
          rw [List.length_append, List.length_singleton] at h2
          exact ⟨h1, by omega⟩
theorem jpS : ∀ b ∈ jau (jbg Tryz.f9), jbk Tryz.prog (tabL rbb0) (OL lp_un) Tryz.f9.ntmps (pbOf []) LO_un b := by
  refine jav 3 (by kernel_rfl) (by kernel_rfl) (by kernel_rfl) ?_
  intro ls e ls' hl
  replace hl : pickA (jko ls) = some (e, ls') := hl
  unfold jko at hl
  split at hl
  · rename_i s x y r b z last n
    rcases pick2 hl with ⟨hc, he⟩ | ⟨hn, hc, he⟩
    · cases he
      obtain ⟨hc, k3⟩ := andE hc
      obtain ⟨hc, k2⟩ := andE hc
      obtain ⟨k0, k1⟩ := andE hc
      rw [nqB k0, nqB k1, nqB k2]
      refine .done _ _ ((jlE s r b last n).trans ?_)
      try delta zzaj1
      try delta zzaj0
      rw [Bool.or_eq_true, decide_eq_true_eq] at k3
      rcases k3 with k3 | k3
      · rw [dF (show ¬ n > 0 by omega)]
        rfl
      · rw [k3]
        cases decide (n > 0) <;> rfl
    · cases he
      obtain ⟨hc, k6⟩ := andE hc
      obtain ⟨hc, k5⟩ := andE hc
      obtain ⟨hc, k4⟩ := andE hc
      obtain ⟨hc, k3⟩ := andE hc
      have k2' := hc
      obtain ⟨hc, k2⟩ := andE hc
      obtain ⟨k0, k1⟩ := andE hc
      rw [k2', Bool.true_and, Bool.or_eq_false_iff, decide_eq_false_iff_not] at hn
      obtain ⟨hn0, hb⟩ := hn
      have k4 := of_decide_eq_true k4
      obtain ⟨m, rfl⟩ : ∃ m : Nat, n = ((m + 1 : Nat) : Int) := ⟨(n - 1).toNat, by omega⟩
      rw [nqB k0, nqB k1, nqB k2, jb4 (nqB k6), hb, Int.toNat_natCast]
      exact jqc s r m (jai k5) (by omega)
  · cases hl
theorem jjU {α : Type} {c d e : Bool} {r r' r'' q : α} (h : pickA [(c, r), (d, r'), (e, r'')] = some q) : (c = true ∧ r = q) ∨ (c = false ∧ d = true ∧ r' = q) ∨ (c = false ∧ d = false ∧ e = true ∧ r'' = q) := by
  cases c with
  | true => exact .inl ⟨rfl, by injection h⟩
  | false =>
    cases d with
    | true => exact .inr (.inl ⟨rfl, rfl, by injection h⟩)
    | false =>
      cases e with
      | true => exact .inr (.inr ⟨rfl, rfl, rfl, by injection h⟩)
      | false => cases h
theorem jhh {t : List NodeT} (h : treeB t = true) : shT t := by
  obtain ⟨h120, hall, _⟩ := jc6 h
  refine ⟨by omega, fun n hn => ?_⟩
  obtain ⟨hp, hv⟩ := jcb (hall n hn)
  obtain ⟨n1, n2⟩ := jbB hp
  have := jdX n1
  exact ⟨by omega, jpN n2, by omega⟩
theorem jg4 {t : List NodeT} {s : ByteArray} (hno : ¬ isTr s) (h0 : (ByteArray.toList s == ([] : List UInt8)) = false) : (ByteArray.toList (packV t) == ByteArray.toList s) = false := by
  refine beq_eq_false_iff_ne.2 fun e => ?_
  by_cases hl : treeB t = true
  · exact hno ⟨t, hl, ByteArray.ext (Array.ext' (by rw [← ByteArray.toList_eq, ← ByteArray.toList_eq]; exact e.symm))⟩
  · rw [jeW, if_neg hl] at e
    rw [← e, show (ByteArray.toList (⟨#[]⟩ : ByteArray) == ([] : List UInt8)) = true from jbp []] at h0
    cases h0
theorem jjI {t : List NodeT} (h : treeB t = true) : (ByteArray.toList (packV t) == ([] : List UInt8)) = false := by
  obtain ⟨_, _, _, _, p5⟩ := jb9 h
  refine beq_eq_false_iff_ne.2 fun e => ?_
  rw [ByteArray.toList_eq, ← List.length_eq_zero_iff, ← jab] at e
  omega
theorem ok_un : jac Tryz.prog 9 E_un := jad mix jsb (lp := lp_un) (LO := LO_un) ⟨Tryz.func9, by kernel_rfl, by kernel_rfl⟩ (by kernel_rfl) fun ivs res bxs h => by
  unfold E_un at h
  split at h
  · rename_i s
    refine ⟨jpS, ?_⟩
    have tree := jrx s
    have hs : s.size ≤ 2000000 := by
      rcases jjU h with ⟨hc, _⟩ | ⟨_, hc, _⟩ | ⟨_, _, hc, _⟩
      · exact of_decide_eq_true (andE (andE hc).1).1
      · exact of_decide_eq_true (andE hc).1
      · exact of_decide_eq_true hc
    have hd := decide_eq_true hs
    have o1 := ja9 s
    have z1 := jdi s 1
    have i0 : isT (PV.agg [PV.sl 0 []]) = true := jcx (t := []) ⟨Nat.zero_le _, fun _ h => by cases h⟩
    have a0 : asT (PV.agg [PV.sl 0 []]) = [] := jby []
    obtain ⟨g1, g2⟩ := jrj (oneV s).toNat (tkR s 1) (tkB s false 1) ⟨#[]⟩ [] (fun _ h => by cases h)
    rw [hd, i0, a0, dT o1.1, dT o1.2, jag (show (tkR s 1).size ≤ 2000000 by omega)] at tree
    have noth : ¬ isTr s → q_un brC s = some (.tup [.agg [.pv .nils], cB false], []) := fun hno => by
      generalize hX : unN (oneV s).toNat (tkR s 1) (tkB s false 1) ⟨#[]⟩ [] = X at g1 g2 tree
      have hsh : shT X.2.2 := ⟨by rw [List.length_nil] at g2; omega, g1⟩
      rw [show isT (PV.agg [PV.sl X.2.2.length (encN X.2.2)]) = true from jcx hsh, show asT (PV.agg [PV.sl X.2.2.length (encN X.2.2)]) = X.2.2 from jby _] at tree
      refine tree.trans ?_
      cases h0 : (ByteArray.toList s == ([] : List UInt8)) with
      | true =>
        cases (decide (oneV s ≤ 0) || tkB s false 1)
        · cases X.2.1 <;> rfl
        · cases tkB s false 1 <;> rfl
      | false =>
        rw [jg4 (t := []) hno h0, jg4 (t := X.2.2) hno h0]
        cases (decide (oneV s ≤ 0) || tkB s false 1)
        · cases X.2.1 <;> rfl
        · cases tkB s false 1 <;> rfl
    rcases jjU h with ⟨hc, he⟩ | ⟨hn, hc, he⟩ | ⟨hn, hn2, hc, he⟩
    · cases he
      obtain ⟨hc, k2⟩ := andE hc
      obtain ⟨k0, k1⟩ := andE hc
      obtain ⟨t, ht, rfl⟩ := jai k1
      rw [jfC ht] at k2
      have hnil : t = [] := List.length_eq_zero_iff.1 (nqB k2)
      subst hnil
      obtain ⟨p1, p2, p3, p4, p5⟩ := jb9 ht
      refine tree.trans ?_
      rw [p1, p2, jjI ht, beq_self_eq_true]
      rfl
    · cases he
      obtain ⟨k0, k1⟩ := andE hc
      obtain ⟨t, ht, rfl⟩ := jai k1
      rw [jfC ht, k0, k1, Bool.true_and, Bool.true_and] at hn
      rw [jfC ht]
      obtain ⟨p1, p2, p3, p4, p5⟩ := jb9 ht
      have hlen : 0 < t.length := by
        rcases Nat.eq_zero_or_pos t.length with h | h
        · rw [h] at hn; cases hn
        · exact h
      have hsh := jhh ht
      refine tree.trans ?_
      rw [p2, p1, Int.toNat_natCast, p3, jjI ht, dF (show ¬ ((t.length : Nat) : Int) ≤ 0 by omega)]
      dsimp only
      rw [show isT (PV.agg [PV.sl t.length (encN t)]) = true from jcx hsh, show asT (PV.agg [PV.sl t.length (encN t)]) = t from jby _, beq_self_eq_true]
      rfl
    · cases he
      exact noth fun hk => by
        rw [hc, jag hk] at hn2
        cases hn2
  · cases h
theorem jsU : jaf Tryz.prog rbb1 := ⟨jlX, jsZ, jpf, jpW, trivial⟩
theorem Suf.uR {s r : ByteArray} (h : Suf s r) : Suf s (Go.Proofs.YtobhacnimkccmaaGreatDoor.uR r) := Suf.t1 (Suf.t1 (Suf.tk h _))
theorem jnk (s s2 r last : ByteArray) (n : Int) (i : Nat) (hr : Suf s2 r) (hs2 : s2.size ≤ 2000000) (hi : (i : Int) < n) (hi2 : i ≤ 300) :
    rdB brC Tryz.prog rbb1 jdh jdk Tryz.f8 6 [] [aS s, aT0 2, aSr 4 s2 (posR s2 r) false, aI n, aT0 6, aS last, aI i] =
      some (bif decide (oneV r > (last.size : Int)) then .inr (.ret, [aS s, aT0 2, aB false, aSr 4 s2 (posR s2 (uR r)) (uB r false), aT0 6]) else bif holds (isKy (ukey r last)) then .inl [aS s, aT0 2, aSr 4 s2 (posR s2 (uR r)) (uB r false), aI n, aTm 6 ([uN r last]), aS (ukey r last), aI ((i + 1 : Nat) : Int)] else .inr (.ret, [aS s, aT0 2, aB false, aSr 4 s2 (posR s2 (uR r)) (uB r false), aT0 6])) := by
  have tree := jjo s s2 (posR s2 r) false n last i
  revert tree; try delta zzah2; intro tree
  revert tree; try delta zzah1; intro tree
  revert tree; try delta zzah0; intro tree
  have y1 : decide (s2.size ≤ 2000000) = true := decide_eq_true hs2
  have y4 : ∀ a b c : PV, Nat.beq (List.length [a, b, c]) (1 * 3) = true := fun _ _ _ => rfl
  have h1 : tkR (tkR (tkR r 1) 1) (oneV (tkR r 1)).toNat = t1R (tkR r 1) := rfl
  have h2 : tkR (tkR (t1R (tkR r 1)) 1) (oneV (t1R (tkR r 1))).toNat = uR r := rfl
  have h3 : tkS (tkR (t1R (tkR r 1)) 1) (oneV (t1R (tkR r 1))).toNat = t1S (t1R (tkR r 1)) := rfl
  have h4 : tkB (tkR (t1R (tkR r 1)) 1) (tkB (t1R (tkR r 1)) (tkB (tkR (tkR r 1) 1) (tkB (tkR r 1) (tkB r false 1) 1) (oneV (tkR r 1)).toNat) 1) (oneV (t1R (tkR r 1))).toNat = uB r false := rfl
  have o1 := ja9 r
  have zk := jcN r last
  rw [dT hi] at tree
  simp (disch := (repeat (first | assumption | refine Suf.tk ?_ _))) only [jjJ, jkm, jkC, jkH, y1, y4, wrap1, Bool.and_true, Bool.true_and, Bool.not_false] at tree
  have w1 : IntKind.wrap .i64 ((i : Int) + 1) = ((i + 1 : Nat) : Int) := by rw [wrapI (by omega) (by omega)]; omega
  try rw [w1] at tree
  by_cases hc : oneV r > (last.size : Int)
  · rw [dT hc] at tree ⊢
    simp only [brT, brF, h1, h2, h3, h4] at tree
    rw [cond_true]
    exact tree
  · have e : last.extract 0 (oneV r).toNat ++ tkS (tkR (tkR r 1) 1) (oneV (tkR r 1)).toNat = ukey r last := by
      unfold ukey ucut
      rw [Nat.min_eq_left (by omega)]
      rfl
    have zk2 : (last.extract 0 (oneV r).toNat).size + (tkS (tkR (tkR r 1) 1) (oneV (tkR r 1)).toNat).size ≤ 510 := by rw [← ByteArray.size_append, e]; exact zk
    rw [dF hc] at tree ⊢
    rw [e, h1, h2, h3, h4] at tree
    simp (disch := omega) only [brT, brF, dT, Bool.and_true, Bool.true_and] at tree
    rw [cond_false]
    cases hk : holds (isKy (ukey r last)) with
    | true =>
      rw [hk] at tree
      simp (disch := omega) only [brT, brF, dT, Bool.and_true, Bool.true_and] at tree
      rw [cond_true]
      unfold aTm
      rw [jeO, List.length_singleton]
      unfold uN kName kSubs
      rw [hk]
      dsimp only [cond_true, cond_false, List.length_nil, List.map_nil]
      exact tree
    | false =>
      rw [hk] at tree
      simp (disch := omega) only [brT, brF, dT, Bool.and_true, Bool.true_and, Bool.and_false] at tree
      rw [cond_false]
      exact tree
theorem jqH (s s2 r last : ByteArray) (n : Int) (l : List NodeT) (i : Nat) (hr : Suf s2 r) (hs2 : s2.size ≤ 2000000) (hl : l.length ≤ 300) (hi : (i : Int) < n) (hi2 : i ≤ 300) :
    rdB brC Tryz.prog rbb1 jdh jdk Tryz.f8 6 [] [aS s, aT0 2, aSr 4 s2 (posR s2 r) false, aI n, aTm 6 l, aS last, aI i] =
      some (bif decide (oneV r > (last.size : Int)) then .inr (.ret, [aS s, aT0 2, aB false, aSr 4 s2 (posR s2 (uR r)) (uB r false), aTm 6 l]) else bif holds (isKy (ukey r last)) then .inl [aS s, aT0 2, aSr 4 s2 (posR s2 (uR r)) (uB r false), aI n, aTm 6 (l ++ [uN r last]), aS (ukey r last), aI ((i + 1 : Nat) : Int)] else .inr (.ret, [aS s, aT0 2, aB false, aSr 4 s2 (posR s2 (uR r)) (uB r false), aTm 6 l])) := by
  have tree := jhc s s2 (posR s2 r) false n l last i
  revert tree; try delta zzai2; intro tree
  revert tree; try delta zzai1; intro tree
  revert tree; try delta zzai0; intro tree
  have y1 : decide (s2.size ≤ 2000000) = true := decide_eq_true hs2
  have y4 : ∀ a b c : PV, Nat.beq (List.length [a, b, c]) (1 * 3) = true := fun _ _ _ => rfl
  have h1 : tkR (tkR (tkR r 1) 1) (oneV (tkR r 1)).toNat = t1R (tkR r 1) := rfl
  have h2 : tkR (tkR (t1R (tkR r 1)) 1) (oneV (t1R (tkR r 1))).toNat = uR r := rfl
  have h3 : tkS (tkR (t1R (tkR r 1)) 1) (oneV (t1R (tkR r 1))).toNat = t1S (t1R (tkR r 1)) := rfl
  have h4 : tkB (tkR (t1R (tkR r 1)) 1) (tkB (t1R (tkR r 1)) (tkB (tkR (tkR r 1) 1) (tkB (tkR r 1) (tkB r false 1) 1) (oneV (tkR r 1)).toNat) 1) (oneV (t1R (tkR r 1))).toNat = uB r false := rfl
  have o1 := ja9 r
  have zk := jcN r last
  rw [dT hi] at tree
  simp (disch := (repeat (first | assumption | refine Suf.tk ?_ _))) only [jjJ, jkm, jkC, jkH, y1, y4, wrap1, Bool.and_true, Bool.true_and, Bool.not_false] at tree
  have w1 : IntKind.wrap .i64 ((i : Int) + 1) = ((i + 1 : Nat) : Int) := by rw [wrapI (by omega) (by omega)]; omega
  try rw [w1] at tree
  by_cases hc : oneV r > (last.size : Int)
  · rw [dT hc] at tree ⊢
    simp only [brT, brF, h1, h2, h3, h4] at tree
    rw [cond_true]
    exact tree
  · have e : last.extract 0 (oneV r).toNat ++ tkS (tkR (tkR r 1) 1) (oneV (tkR r 1)).toNat = ukey r last := by
      unfold ukey ucut
      rw [Nat.min_eq_left (by omega)]
      rfl
    have zk2 : (last.extract 0 (oneV r).toNat).size + (tkS (tkR (tkR r 1) 1) (oneV (tkR r 1)).toNat).size ≤ 510 := by rw [← ByteArray.size_append, e]; exact zk
    rw [dF hc] at tree ⊢
    rw [e, h1, h2, h3, h4] at tree
    simp (disch := omega) only [brT, brF, dT, Bool.and_true, Bool.true_and] at tree
    rw [cond_false]
    cases hk : holds (isKy (ukey r last)) with
    | true =>
      rw [hk] at tree
      simp (disch := omega) only [brT, brF, dT, Bool.and_true, Bool.true_and] at tree
      rw [cond_true]
      unfold aTm
      rw [jhv, List.length_append, jeO, List.length_singleton]
      unfold uN kName kSubs
      rw [hk]
      dsimp only [cond_true, cond_false, List.length_nil, List.map_nil]
      exact tree
    | false =>
      rw [hk] at tree
      simp (disch := omega) only [brT, brF, dT, Bool.and_true, Bool.true_and, Bool.and_false] at tree
      rw [cond_false]
      exact tree
noncomputable abbrev suR (s s2 : ByteArray) (X : Bool × ByteArray × Bool × List NodeT) : Ex × LS := if X.1 = true then (.exit 0, [aS s, aT0 2, aX, aSr 4 s2 (posR s2 X.2.1) X.2.2.1, aTm 6 X.2.2.2]) else (.ret, [aS s, aT0 2, aB false, aSr 4 s2 (posR s2 X.2.1) X.2.2.1, aTm 6 X.2.2.2])
theorem jqP (s s2 : ByteArray) (n : Nat) (hs2 : s2.size ≤ 2000000) (hn : n ≤ 255) : ∀ (m i : Nat) (r : ByteArray) (b : Bool) (last : ByteArray) (l : List NodeT), m + i = n → Suf s2 r → l.length ≤ i →
    LoopsTo (rdB brC Tryz.prog rbb1 jdh jdk Tryz.f8 6 []) [aS s, aT0 2, aSr 4 s2 (posR s2 r) b, aI n, aTm 6 l, aS last, aI i] (suR s s2 (unS m r b last l)) := by
  intro m
  induction m with
  | zero =>
    intro i r b last l hm hr hl
    unfold unS suR
    dsimp only
    rw [if_pos rfl]
    refine .done _ _ ((jhc s s2 (posR s2 r) b n l last i).trans ?_)
    try delta zzai2
    try delta zzai1
    try delta zzai0
    rw [dF (by omega)]
    rfl
  | succ m ih =>
    intro i r b last l hm hr hl
    unfold unS
    cases b with
    | true =>
      rw [cond_true]
      unfold suR
      dsimp only
      rw [if_pos rfl]
      refine .done _ _ ((jhc s s2 (posR s2 r) true n l last i).trans ?_)
      try delta zzai2
      try delta zzai1
      try delta zzai0
      rw [dT (show (i : Int) < (n : Int) by omega)]
      rfl
    | false =>
      rw [cond_false]
      have st := jqH s s2 r last n l i hr hs2 (by omega) (by omega) (by omega)
      cases hc : decide (oneV r > (last.size : Int)) with
      | true =>
        rw [hc] at st
        rw [cond_true] at st ⊢
        unfold suR
        dsimp only
        rw [if_neg Bool.false_ne_true]
        exact .done _ _ st
      | false =>
        rw [hc] at st
        rw [cond_false] at st ⊢
        cases hk : holds (isKy (ukey r last)) with
        | true =>
          rw [hk] at st
          rw [cond_true] at st ⊢
          have := ih (i + 1) (uR r) (uB r false) (ukey r last) (l ++ [uN r last]) (by omega) hr.uR (by rw [List.length_append, List.length_singleton]; omega)
          exact .step _ _ _ st this
        | false =>
          rw [hk] at st
          rw [cond_false] at st ⊢
          unfold suR
          dsimp only
          rw [if_neg Bool.false_ne_true]
          exact .done _ _ st
theorem jpn : ∀ (m : Nat) (r : ByteArray) (b : Bool) (last : ByteArray) (l : List NodeT), l.length ≤ (unS m r b last l).2.2.2.length
  | 0, r, b, last, l => Nat.le_refl _
  | m + 1, r, b, last, l => by
    unfold unS
    cases b with
    | true => exact Nat.le_refl _
    | false =>
      rw [cond_false]
      cases decide (oneV r > (last.size : Int)) with
      | true => exact Nat.le_refl _
      | false =>
        rw [cond_false]
        cases holds (isKy (ukey r last)) with
        | false => exact Nat.le_refl _
        | true =>
          rw [cond_true]
          have := jpn m (uR r) (uB r false) (ukey r last) (l ++ [uN r last])
          rw [List.length_append] at this
          omega
noncomputable abbrev su0 (s s2 : ByteArray) (X : Bool × ByteArray × Bool × List NodeT) : Ex × LS := if X.1 = true then (.exit 0, [aS s, aT0 2, aX, aSr 4 s2 (posR s2 X.2.1) X.2.2.1, aTm 6 X.2.2.2]) else (.ret, [aS s, aT0 2, aB false, aSr 4 s2 (posR s2 X.2.1) X.2.2.1, bif Nat.beq X.2.2.2.length 0 then aT0 6 else aTm 6 X.2.2.2])
theorem jpu (s s2 r : ByteArray) (m : Nat) (hs2 : s2.size ≤ 2000000) (hm : m + 1 ≤ 255) (hr : Suf s2 r) :
    LoopsTo (rdB brC Tryz.prog rbb1 jdh jdk Tryz.f8 6 []) [aS s, aT0 2, aSr 4 s2 (posR s2 r) false, aI ((m + 1 : Nat) : Int), aT0 6, aS ⟨#[]⟩, aI ((0 : Nat) : Int)] (su0 s s2 (unS (m + 1) r false ⟨#[]⟩ [])) := by
  have st := jnk s s2 r ⟨#[]⟩ ((m + 1 : Nat) : Int) 0 hr hs2 (by omega) (by omega)
  unfold unS
  rw [cond_false]
  cases hc : decide (oneV r > ((⟨#[]⟩ : ByteArray).size : Int)) with
  | true =>
    rw [hc] at st
    rw [cond_true] at st ⊢
    unfold su0
    dsimp only
    rw [if_neg Bool.false_ne_true]
    exact .done _ _ st
  | false =>
    rw [hc] at st
    rw [cond_false] at st ⊢
    cases hk : holds (isKy (ukey r ⟨#[]⟩)) with
    | true =>
      rw [hk] at st
      rw [cond_true] at st ⊢
      have := jqP s s2 (m + 1) hs2 hm m 1 (uR r) (uB r false) (ukey r ⟨#[]⟩) [uN r ⟨#[]⟩] (by omega) hr.uR (Nat.le_refl _)
      have hl := jpn m (uR r) (uB r false) (ukey r ⟨#[]⟩) [uN r ⟨#[]⟩]
      rw [List.length_singleton] at hl
      have e : su0 s s2 (unS m (uR r) (uB r false) (ukey r ⟨#[]⟩) [uN r ⟨#[]⟩]) = suR s s2 (unS m (uR r) (uB r false) (ukey r ⟨#[]⟩) [uN r ⟨#[]⟩]) := by
        unfold su0 suR
        rw [show Nat.beq (unS m (uR r) (uB r false) (ukey r ⟨#[]⟩) [uN r ⟨#[]⟩]).2.2.2.length 0 = false from Bool.eq_false_iff.2 fun h => by have := nqB h; omega, cond_false]
      rw [List.nil_append, e]
      exact .step _ _ _ st this
    | false =>
      rw [hk] at st
      rw [cond_false] at st ⊢
      unfold su0
      dsimp only
      rw [if_neg Bool.false_ne_true]
      exact .done _ _ st
theorem joH : ∀ b ∈ jau (jbg Tryz.f8), jbk Tryz.prog (tabL rbb1) (OL jdh) Tryz.f8.ntmps (pbOf []) jdk b := by
  refine jav 6 (by kernel_rfl) (by kernel_rfl) (by kernel_rfl) ?_
  intro ls e ls' hl
  replace hl : pickA (jhD ls) = some (e, ls') := hl
  unfold jhD at hl
  split at hl
  · rename_i s x y s2 a b n z last i
    have fin : (Nat.beq x 8192 && Nat.beq y 16384 && Nat.beq z 24576 && (decide (n ≤ 0) || b) && (i == 0)) = false → (Nat.beq x 8192 && Nat.beq y 16384 && Nat.beq z 24576 && (i == 0) && decide (0 ≤ n) && decide (n ≤ 255) && decide (0 ≤ a) && decide (a ≤ s2.size) && holds (s2.size ≤ 2000000) && Nat.beq last.size 0) = true →
        LoopsTo (rdB brC Tryz.prog rbb1 jdh jdk Tryz.f8 6 []) [aS s, (.ptr x 0, some (.box [.pv .nils])), (.ptr y 0, some (.box [.pv (.str s2), .pv (.int .i64 a), .pv (.bool b)])), aI n, (.ptr z 0, some (.box [.pv .nils])), aS last, aI i] (su0 s s2 (unS n.toNat (rst s2 a.toNat) b ⟨#[]⟩ [])) := by
      intro hn hc
      obtain ⟨hc, k9⟩ := andE hc
      obtain ⟨hc, k8⟩ := andE hc
      obtain ⟨hc, k7⟩ := andE hc
      obtain ⟨hc, k6⟩ := andE hc
      obtain ⟨hc, k5⟩ := andE hc
      obtain ⟨hc, k4⟩ := andE hc
      obtain ⟨hc, k3⟩ := andE hc
      have kk := hc
      obtain ⟨hc, k2⟩ := andE hc
      obtain ⟨k0, k1⟩ := andE hc
      rw [kk, k3, Bool.true_and, Bool.and_true, Bool.or_eq_false_iff, decide_eq_false_iff_not] at hn
      obtain ⟨hn0, hb⟩ := hn
      have k5 := of_decide_eq_true k5
      have k6 := of_decide_eq_true k6
      have k7 := of_decide_eq_true k7
      obtain ⟨m, rfl⟩ : ∃ m : Nat, n = ((m + 1 : Nat) : Int) := ⟨(n - 1).toNat, by omega⟩
      obtain ⟨j, rfl⟩ : ∃ j : Nat, a = (j : Int) := ⟨a.toNat, by omega⟩
      obtain rfl := eq_of_beq k3
      rw [nqB k0, nqB k1, nqB k2, jb4 (nqB k9), hb, Int.toNat_natCast, Int.toNat_natCast]
      have := jpu s s2 (rst s2 j) m (jai k8) (by omega) ⟨j, by omega, rfl⟩
      rw [jcU (show j ≤ s2.size by omega)] at this
      exact this
    rcases jjU hl with ⟨hc, he⟩ | ⟨hn, hc, he⟩ | ⟨hn, hn2, hc, he⟩
    · cases he
      obtain ⟨hc, k4⟩ := andE hc
      obtain ⟨hc, k3⟩ := andE hc
      obtain ⟨hc, k2⟩ := andE hc
      obtain ⟨k0, k1⟩ := andE hc
      obtain rfl := eq_of_beq k4
      rw [nqB k0, nqB k1, nqB k2]
      refine .done _ _ ((jjo s s2 a b n last 0).trans ?_)
      try delta zzah2
      try delta zzah1
      try delta zzah0
      rw [Bool.or_eq_true, decide_eq_true_eq] at k3
      rcases k3 with k3 | k3
      · rw [dF (show ¬ 0 < n by omega)]
        rfl
      · rw [k3]
        cases decide (0 < n) <;> rfl
    · cases he
      obtain ⟨hc, k⟩ := andE hc
      have := fin hn hc
      unfold su0 at this
      rw [if_pos k] at this
      exact this
    · cases he
      have := fin hn hc
      unfold su0 at this
      rw [hc, Bool.true_and] at hn2
      rw [hn2, if_neg Bool.false_ne_true] at this
      exact this
  · cases hl
theorem jty : jac Tryz.prog 8 E_sun := jgd mix jsU (lp := jdh) (LO := jdk) ⟨Tryz.func8, by kernel_rfl, by kernel_rfl⟩ (by kernel_rfl) fun ivs res bxs h => by
  unfold E_sun at h
  split at h
  · rename_i s
    refine ⟨joH, ?_⟩
    have tree := jqR s
    have hs : s.size ≤ 2000000 := by
      rcases pick2 h with ⟨hc, _⟩ | ⟨_, hc, _⟩
      · exact of_decide_eq_true (andE hc).1
      · exact of_decide_eq_true hc
    have hd := decide_eq_true hs
    have o1 := ja9 s
    have c1 : decide ((0 : Int) ≤ (s.size : Int)) = true := decide_eq_true (by omega)
    have c2 : decide (oneV s ≤ 255) = true := decide_eq_true o1.2
    have c3 : holds (s.size ≤ 2000000) = true := jag hs
    have c4 : rst s (Int.toNat (posR s (tkR s 1))) = tkR s 1 := jjJ (Suf.tk (Suf.all s) 1)
    have c5 : decide ((0 : Int) ≤ 0) = true := rfl
    have i0 : isT (PV.agg [PV.sl 0 []]) = true := jcx (t := []) ⟨Nat.zero_le _, fun _ h => by cases h⟩
    have a0 : asT (PV.agg [PV.sl 0 []]) = [] := jby []
    obtain ⟨g1, g2⟩ := jq9 (oneV s).toNat (tkR s 1) (tkB s false 1) ⟨#[]⟩ [] (fun _ h => by cases h)
    rw [jlN, c4] at tree
    simp only [hd, c1, c2, c3, c5, i0, a0, jkm, jkC, jkH, Nat.beq_refl, beq_self_eq_true, Bool.and_true, Bool.true_and] at tree
    rcases pick2 h with ⟨hc, he⟩ | ⟨hn, hc, he⟩
    · cases he
      obtain ⟨k0, k1⟩ := andE hc
      obtain ⟨t, ht, rfl⟩ := jai k1
      rw [jfC ht]
      obtain ⟨p1, p2, p3, p4, p5⟩ := jb9 ht
      have hsh := jhh ht
      have hz := jjI ht
      by_cases hnil : t = []
      · subst hnil
        rw [p1, p2, hz, beq_self_eq_true] at tree
        exact ⟨_, tree.trans rfl, rfl, rfl⟩
      · have hlen : 0 < t.length := List.length_pos_iff.2 hnil
        rw [p1, p2, Int.toNat_natCast, p4, dF (show ¬ ((t.length : Nat) : Int) ≤ 0 by omega)] at tree
        dsimp only at tree
        rw [show isT (PV.agg [PV.sl t.length (encN t)]) = true from jcx hsh, show asT (PV.agg [PV.sl t.length (encN t)]) = t from jby _, beq_self_eq_true, hz] at tree
        exact ⟨_, tree.trans rfl, rfl, rfl⟩
    · cases he
      have hno : ¬ isTr s := fun hk => by rw [hc, jag hk] at hn; cases hn
      refine ⟨.tup [.agg [.pv .nils], cB false], ?_, rfl, rfl⟩
      generalize hX : unS (oneV s).toNat (tkR s 1) (tkB s false 1) ⟨#[]⟩ [] = X at g1 g2 tree
      have hsh : shT X.2.2.2 := ⟨by rw [List.length_nil] at g2; omega, g1⟩
      rw [show isT (PV.agg [PV.sl X.2.2.2.length (encN X.2.2.2)]) = true from jcx hsh, show asT (PV.agg [PV.sl X.2.2.2.length (encN X.2.2.2)]) = X.2.2.2 from jby _] at tree
      cases h0 : (ByteArray.toList s == ([] : List UInt8)) with
      | true =>
        rw [h0] at tree
        refine tree.trans ?_
        cases (decide (oneV s ≤ 0) || tkB s false 1)
        · cases X.1 <;> cases X.2.2.1 <;> cases (ByteArray.toList (packV X.2.2.2) == ByteArray.toList s) <;> rfl
        · cases tkB s false 1 <;> cases (ByteArray.toList (packV []) == ByteArray.toList s) <;> rfl
      | false =>
        rw [h0, jg4 (t := []) hno h0, jg4 (t := X.2.2.2) hno h0] at tree
        refine tree.trans ?_
        cases (decide (oneV s ≤ 0) || tkB s false 1)
        · cases X.1 <;> cases X.2.2.1 <;> rfl
        · cases tkB s false 1 <;> rfl
  · cases h
end
section
open Go.RowKit
noncomputable def mrkB (k : Int) : Bool := decide (1 ≤ k) && holds (k ≤ 100000000)
noncomputable def mkNd (k : Int) (x : NodeT) : NodeT := ⟨mkV (k), mkL (k + 1) x.subs, mkV (k + 1 + (x.subs.length : Int))⟩
noncomputable def mkNds : Int → List NodeT → List NodeT
  | _, [] => []
  | k, x :: t => mkNd k x :: mkNds (k + 2 + (x.subs.length : Int)) t
def mkNdE : Int → List NodeT → Int
  | k, [] => k
  | k, x :: t => mkNdE (k + 2 + (x.subs.length : Int)) t
abbrev jbP : List (Nat × List Nat × List Nat) := [(2, [0, 1, 5], [0, 1]), (1000000, [], [24]), (1000001, [1600416], [])]
abbrev aWNd0 : AV × Option Ob := (.own 0, some (.lst 3 88 0 [] true))
abbrev aWNd (l : List PV) (n : Nat) : AV × Option Ob := (.own 0, some (.dls 3 88 n l true none))
noncomputable def jfm (ls : LS) : List (Bool × Ex × LS) := match ls with
  | [(.own x, some (.dls 3 e n l true none)), (.pv (.int .i64 k), none), (.pv (.int .i64 i), none)] =>
    [(isNs (.sl n l) && Nat.beq e 88 && Nat.beq x 0 && (i == 0) && decide (1 ≤ k) && holds (k ≤ 100000000) && decide (n ≤ 5000), .exit 0, [aWNd (encN (mkNds k (asNs (.sl n l)))) n, aI (mkNdE k (asNs (.sl n l)))])]
  | [(.own x, some (.lst 3 e n l true)), (.pv (.int .i64 k), none), (.pv (.int .i64 i), none)] =>
    [(Nat.beq e 88 && Nat.beq x 0 && Nat.beq n 0 && nilB l && (i == 0), .exit 0, [aWNd0, aI k])]
  | _ => []
noncomputable def jdW : LoopT := fun _ ls => match ls with
  | [(.pv (.sl n l), none), (.pv (.int .i64 k), none), (.pv (.int .i64 i), none)] =>
    [(Nat.beq n 0 && nilB l && (i == 0), .exit 0, [aP (.sl 0 []), aI k])]
  | _ => []
noncomputable def jdo : LoopT := fun k ls => bif Nat.beq k 2 then jfm ls else []
noncomputable def jtR (br : Br) (n : Nat) (l : List PV) (k i : Int) := rdB br Tryz.prog kfb1 jbP jdo Tryz.f51 2 [0] [aWNd l n, aI k, aI i]
noncomputable def jsO (br : Br) (k i : Int) := rdB br Tryz.prog kfb1 jbP jdo Tryz.f51 2 [0] [aWNd0, aI k, aI i]
noncomputable def jr6 (br : Br) (k i : Int) := rdB br Tryz.prog kfb1 jbP jdW Tryz.f51 2 [] [aP (.sl 0 []), aI k, aI i]
noncomputable def jtr (br : Br) (n : Nat) (l : List PV) (k : Int) := evB br Tryz.prog kfb1 jbP jdo Tryz.f51 [.lk false [] 3 (88 + 2000000) n l [], cI k]
noncomputable def jsB (br : Br) (k : Int) := evB br Tryz.prog kfb1 jbP jdo Tryz.f51 [.lk false [] 3 88 0 [] [], cI k]
noncomputable def jst (br : Br) (k : Int) := evB br Tryz.prog kfb1 jbP jdW Tryz.f51 [cP (.sl 0 []), cI k]
noncomputable def E_mkNda : Entry := fun ivs => match ivs with
  | [.lk false [] 3 e n l [], .cv (.pv (.int .i64 k))] =>
    [(Nat.beq e (88 + 2000000) && isNs (.sl n l) && mrkB k && decide (n ≤ 5000), cI (mkNdE k (asNs (.sl n l))), [[.dls 3 88 n (encN (mkNds k (asNs (.sl n l))))]]),
     (Nat.beq e 88 && Nat.beq n 0 && nilB l, cI k, [[.lst 3 88 0 [] true]])]
  | _ => []
noncomputable def E_mkNdb : Entry := fun ivs => match ivs with
  | [.cv (.pv (.sl n l)), .cv (.pv (.int .i64 k))] => [(Nat.beq n 0 && nilB l, cI k, [])]
  | _ => []
noncomputable def E_mkNd : Entry := fun ivs => E_mkNda ivs ++ E_mkNdb ivs
abbrev jhj : List (Nat × List Nat × List Nat) := [(2, [0, 1, 5], [1])]
noncomputable def jf1 (ls : LS) : List (Bool × Ex × LS) := match ls with
  | [(.pv p, none), (.pv (.int .i64 k), none), (.pv (.int .i64 i), none)] =>
    [(isNs p && (i == 0) && decide (1 ≤ k) && holds (k ≤ 100000000) && decide ((asNs p).length ≤ 5000) && holds (asNs p = mkNds k (asNs p)), .exit 0, [aI (mkNdE k (asNs p))])]
  | _ => []
noncomputable def jhI : LoopT := fun k ls => bif Nat.beq k 2 then jf1 ls else []
noncomputable def jtW (br : Br) (l : List NodeT) (k i : Int) := rdB br Tryz.prog kfb4 jhj jhI Tryz.f52 2 [] [aP (pNs l), aI k, aI i]
noncomputable def jtm (br : Br) (l : List NodeT) (k : Int) := evB br Tryz.prog kfb4 jhj jhI Tryz.f52 [cP (pNs l), cI k]
noncomputable def E_hdNd : Entry := fun ivs => match ivs with
  | [.cv (.pv p), .cv (.pv (.int .i64 k))] => [(isNs p && mrkB k && decide ((asNs p).length ≤ 5000) && holds (asNs p = mkNds k (asNs p)), cI (mkNdE k (asNs p)), [])]
  | _ => []
noncomputable def jtK (br : Br) (x y : NodeT) := evB br Tryz.prog kfb2 [] LO0 Tryz.f116 [cP (pN x), cP (pN y)]
noncomputable def E_eqNd : Entry := fun ivs => match ivs with
  | [.cv (.pv p), .cv (.pv q)] => [(isN p && isN q, cB (holds (asN p = asN q)), [])]
  | _ => []
noncomputable def eqbNd : List (FuncId × Entry) := [(116, E_eqNd)]
abbrev jdQ : List (Nat × List Nat × List Nat) := [(4, [0, 1, 5], [0, 4])]
noncomputable def jd7 (ls : LS) : List (Bool × Ex × LS) := match ls with
  | [(.pv p, none), (.pv q, none), (.pv (.int .i64 i), none)] =>
    [(isNs p && isNs q && (i == 0) && decide ((asNs p).length = (asNs q).length) && holds (asNs p = asNs q), .exit 0, [aP p, aX]),
     (isNs p && isNs q && (i == 0) && decide ((asNs p).length = (asNs q).length), .ret, [aP p, aB false])]
  | _ => []
noncomputable def jdN : LoopT := fun k ls => bif Nat.beq k 4 then jd7 ls else []
noncomputable def jsA (br : Br) (l u : List NodeT) (i : Int) := rdB br Tryz.prog eqbNd jdQ jdN Tryz.f50 4 [] [aP (pNs l), aP (pNs u), aI i]
noncomputable def jsC (br : Br) (l u : List NodeT) := evB br Tryz.prog eqbNd jdQ jdN Tryz.f50 [cP (pNs l), cP (pNs u)]
noncomputable def E_eqNds : Entry := fun ivs => match ivs with
  | [.cv (.pv p), .cv (.pv q)] => [(isNs p && isNs q, cB (holds (asNs p = asNs q)), [])]
  | _ => []
end
section
theorem jma (k : Int) : jsB brC k =
 brC (Nat.beq 88 88 && Nat.beq 0 0 && Nat.beq 0 0 && nilB [] && 0 == 0)
 (some ((.cv (.pv (.int .i64 k)), [[.lst 3 88 0 [] true]])))
 none := by kernel_rfl
theorem jmK (k : Int) (i : Int) : jsO brC k i =
 brC (decide (i < (↑0 : Int)))
 (brC (decide (1 ≤ k) && holds (k ≤ 1000000000))
 (brC (decide (0 ≤ i) && decide (i < (↑0 : Int)))
 none
 none)
 none)
 (some (.inr (.exit 0, [(.own 0, some (.lst 3 88 0 [] true)), (.pv (.int .i64 k), none)]))) := by kernel_rfl
noncomputable def zzal0 (l : List NodeT) (k : Int) (i : Int) := (PV.sl (PV.slN (List.headD (List.drop 1 (List.drop (Int.toNat i * 3) (encN l))) PV.nilp)) (PV.slL (List.headD (List.drop 1 (List.drop (Int.toNat i * 3) (encN l))) PV.nilp)))
theorem ji0 (l : List NodeT) (k : Int) (i : Int) : jtW brC l k i =
 brC (decide (i < (↑(List.length l) : Int)))
 (brC (decide (0 ≤ i) && decide (i < (↑(List.length l) : Int)))
 (brC (Nat.blt 0 (List.length (List.drop 0 (List.drop (Int.toNat i * 3) (encN l)))) && PV.isStr (List.headD (List.drop 0 (List.drop (Int.toNat i * 3) (encN l))) PV.nilp) && true)
 (brC (decide (1 ≤ k) && holds (k ≤ 1000000000))
 (brC (!ByteArray.toList (PV.asStr (List.headD (List.drop 0 (List.drop (Int.toNat i * 3) (encN l))) PV.nilp)) == ByteArray.toList (mkV k))
 (some (.inr (.ret, [(.pv (.int .i64 k), none)])))
 (brC (decide (0 ≤ i) && decide (i < (↑(List.length l) : Int)))
 (brC (Nat.blt 0 (List.length (List.drop 1 (List.drop (Int.toNat i * 3) (encN l)))) && PV.isSl (List.headD (List.drop 1 (List.drop (Int.toNat i * 3) (encN l))) PV.nilp) && true)
 (brC (isL (zzal0 l k i) && decide (1 ≤ IntKind.wrap .i64 (k + 1)) && holds (IntKind.wrap .i64 (k + 1) ≤ 900000000) && holds (asL (zzal0 l k i) = mkL (IntKind.wrap .i64 (k + 1)) (asL (zzal0 l k i))))
 (brC (decide (IntKind.wrap .i64 (k + 1) + (↑(List.length (asL (zzal0 l k i))) : Int) < 0))
 (some (.inr (.ret, [(.pv (.int .i64 (IntKind.wrap .i64 (k + 1) + (↑(List.length (asL (zzal0 l k i))) : Int))), none)])))
 (brC (decide (0 ≤ i) && decide (i < (↑(List.length l) : Int)))
 (brC (Nat.blt 0 (List.length (List.drop 2 (List.drop (Int.toNat i * 3) (encN l)))) && PV.isStr (List.headD (List.drop 2 (List.drop (Int.toNat i * 3) (encN l))) PV.nilp) && true)
 (brC (decide (1 ≤ IntKind.wrap .i64 (k + 1) + (↑(List.length (asL (zzal0 l k i))) : Int)) && holds (IntKind.wrap .i64 (k + 1) + (↑(List.length (asL (zzal0 l k i))) : Int) ≤ 1000000000))
 (brC (!ByteArray.toList (PV.asStr (List.headD (List.drop 2 (List.drop (Int.toNat i * 3) (encN l))) PV.nilp)) == ByteArray.toList (mkV (IntKind.wrap .i64 (k + 1) + (↑(List.length (asL (zzal0 l k i))) : Int))))
 (some (.inr (.ret, [(.pv (.int .i64 (IntKind.wrap .i64 (k + 1) + (↑(List.length (asL (zzal0 l k i))) : Int))), none)])))
 (some (.inl [(.pv (.sl (List.length l) (encN l)), none), (.pv (.int .i64 (IntKind.wrap .i64 (IntKind.wrap .i64 (k + 1) + (↑(List.length (asL (zzal0 l k i))) : Int) + 1))), none), (.pv (.int .i64 (IntKind.wrap .i64 (i + 1))), none)])))
 none)
 none)
 none))
 none)
 none)
 none))
 none)
 none)
 none)
 (some (.inr (.exit 0, [(.pv (.int .i64 k), none)]))) := by kernel_rfl
noncomputable def zzam0 (n : Nat) (l : List PV) (k : Int) (i : Int) := (List.headD (List.drop (Int.toNat i * 3 + 1) (List.take (Int.toNat i * 3 + 0) l ++ [PV.str (mkV k)] ++ List.drop (Int.toNat i * 3 + 0 + 1) l)) PV.nilp)
noncomputable def zzam1 (n : Nat) (l : List PV) (k : Int) (i : Int) := (List.take (Int.toNat i * 3 + 1) (List.take (Int.toNat i * 3 + 0) l ++ [PV.str (mkV k)] ++ List.drop (Int.toNat i * 3 + 0 + 1) l) ++ [PV.sl (PV.slN (zzam0 n l k i)) (List.map PV.str (mkL (IntKind.wrap .i64 (k + 1)) (asL (PV.sl (PV.slN (zzam0 n l k i)) (PV.slL (zzam0 n l k i))))))] ++ List.drop (Int.toNat i * 3 + 1 + 1) (List.take (Int.toNat i * 3 + 0) l ++ [PV.str (mkV k)] ++ List.drop (Int.toNat i * 3 + 0 + 1) l))
theorem jik (n : Nat) (l : List PV) (k : Int) (i : Int) : jtR brC n l k i =
 brC (decide (i < (↑n : Int)))
 (brC (decide (1 ≤ k) && holds (k ≤ 1000000000))
 (brC (decide (0 ≤ i) && decide (i < (↑n : Int)))
 (brC (Nat.ble (Int.toNat i * 3 + 0 + 1) (List.length l) && noKid 88 3 (Int.toNat i * 3 + 0))
 (brC (decide (0 ≤ i) && decide (i < (↑n : Int)))
 (brC (Nat.blt (Int.toNat i * 3 + 1) (List.length (List.take (Int.toNat i * 3 + 0) l ++ [PV.str (mkV k)] ++ List.drop (Int.toNat i * 3 + 0 + 1) l)) && (PV.isSl (zzam0 n l k i) && isKid 88 3 (Int.toNat i * 3 + 1) 1 9))
 (brC (isL (PV.sl (PV.slN (zzam0 n l k i)) (PV.slL (zzam0 n l k i))) && Nat.beq 9 9 && decide (1 ≤ IntKind.wrap .i64 (k + 1)) && holds (IntKind.wrap .i64 (k + 1) ≤ 900000000))
 (brC (decide (1 ≤ IntKind.wrap .i64 (k + 1) + (↑(List.length (asL (PV.sl (PV.slN (zzam0 n l k i)) (PV.slL (zzam0 n l k i))))) : Int)) && holds (IntKind.wrap .i64 (k + 1) + (↑(List.length (asL (PV.sl (PV.slN (zzam0 n l k i)) (PV.slL (zzam0 n l k i))))) : Int) ≤ 1000000000))
 (brC (decide (0 ≤ i) && decide (i < (↑n : Int)))
 (brC (Nat.ble (Int.toNat i * 3 + 2 + 1) (List.length (zzam1 n l k i)) && noKid 88 3 (Int.toNat i * 3 + 2))
 (some (.inl [(.own 0, some (.dls 3 88 n (List.take (Int.toNat i * 3 + 2) (zzam1 n l k i) ++ [PV.str (mkV (IntKind.wrap .i64 (k + 1) + (↑(List.length (asL (PV.sl (PV.slN (zzam0 n l k i)) (PV.slL (zzam0 n l k i))))) : Int)))] ++ List.drop (Int.toNat i * 3 + 2 + 1) (zzam1 n l k i)) true none)), (.pv (.int .i64 (IntKind.wrap .i64 (IntKind.wrap .i64 (k + 1) + (↑(List.length (asL (PV.sl (PV.slN (zzam0 n l k i)) (PV.slL (zzam0 n l k i))))) : Int) + 1))), none), (.pv (.int .i64 (IntKind.wrap .i64 (i + 1))), none)]))
 none)
 none)
 none)
 none)
 none)
 none)
 none)
 none)
 none)
 (some (.inr (.exit 0, [(.own 0, some (.dls 3 88 n l true none)), (.pv (.int .i64 k), none)]))) := by kernel_rfl
theorem jmB (k : Int) : jst brC k =
 brC (Nat.beq 0 0 && nilB [] && 0 == 0)
 (some ((.cv (.pv (.int .i64 k)), [])))
 none := by kernel_rfl
theorem jns (l : List NodeT) (k : Int) : jtm brC l k =
 brC (isNs (pNs l) && 0 == 0 && decide (1 ≤ k) && holds (k ≤ 100000000) && decide (List.length (asNs (pNs l)) ≤ 5000) && holds (asNs (pNs l) = mkNds k (asNs (pNs l))))
 (some ((.cv (.pv (.int .i64 (mkNdE k (asNs (pNs l))))), [])))
 none := by kernel_rfl
theorem joe (n : Nat) (l : List PV) (k : Int) : jtr brC n l k =
 brC (isNs (PV.sl n l) && Nat.beq (88 + 2000000 - 2000000) 88 && Nat.beq 0 0 && 0 == 0 && decide (1 ≤ k) && holds (k ≤ 100000000) && decide (n ≤ 5000))
 (brC (Nat.beq n n)
 (some ((.cv (.pv (.int .i64 (mkNdE k (asNs (PV.sl n l))))), [[.dls 3 88 n (encN (mkNds k (asNs (PV.sl n l))))]])))
 none)
 none := by kernel_rfl
theorem jgW (l : List NodeT) (u : List NodeT) (i : Int) : jsA brC l u i =
 brC (decide (i < (↑(List.length l) : Int)))
 (brC (decide (0 ≤ i) && decide (i < (↑(List.length l) : Int)))
 (brC (Nat.ble 3 (List.length (List.drop (Int.toNat i * 3) (encN l))) && (PV.isStr (List.headD (List.drop (Int.toNat i * 3) (encN l)) PV.nilp) && (PV.isSl (List.headD (List.tail (List.drop (Int.toNat i * 3) (encN l))) PV.nilp) && (PV.isStr (List.headD (List.tail (List.tail (List.drop (Int.toNat i * 3) (encN l)))) PV.nilp) && true && true) && true) && true) && true)
 (brC (decide (0 ≤ i) && decide (i < (↑(List.length u) : Int)))
 (brC (Nat.ble 3 (List.length (List.drop (Int.toNat i * 3) (encN u))) && (PV.isStr (List.headD (List.drop (Int.toNat i * 3) (encN u)) PV.nilp) && (PV.isSl (List.headD (List.tail (List.drop (Int.toNat i * 3) (encN u))) PV.nilp) && (PV.isStr (List.headD (List.tail (List.tail (List.drop (Int.toNat i * 3) (encN u)))) PV.nilp) && true && true) && true) && true) && true)
 (brC (isN (PV.agg [PV.str (PV.asStr (List.headD (List.drop (Int.toNat i * 3) (encN l)) PV.nilp)), PV.sl (PV.slN (List.headD (List.tail (List.drop (Int.toNat i * 3) (encN l))) PV.nilp)) (PV.slL (List.headD (List.tail (List.drop (Int.toNat i * 3) (encN l))) PV.nilp)), PV.str (PV.asStr (List.headD (List.tail (List.tail (List.drop (Int.toNat i * 3) (encN l)))) PV.nilp))]) && isN (PV.agg [PV.str (PV.asStr (List.headD (List.drop (Int.toNat i * 3) (encN u)) PV.nilp)), PV.sl (PV.slN (List.headD (List.tail (List.drop (Int.toNat i * 3) (encN u))) PV.nilp)) (PV.slL (List.headD (List.tail (List.drop (Int.toNat i * 3) (encN u))) PV.nilp)), PV.str (PV.asStr (List.headD (List.tail (List.tail (List.drop (Int.toNat i * 3) (encN u)))) PV.nilp))]))
 (brC (!holds (asN (PV.agg [PV.str (PV.asStr (List.headD (List.drop (Int.toNat i * 3) (encN l)) PV.nilp)), PV.sl (PV.slN (List.headD (List.tail (List.drop (Int.toNat i * 3) (encN l))) PV.nilp)) (PV.slL (List.headD (List.tail (List.drop (Int.toNat i * 3) (encN l))) PV.nilp)), PV.str (PV.asStr (List.headD (List.tail (List.tail (List.drop (Int.toNat i * 3) (encN l)))) PV.nilp))]) = asN (PV.agg [PV.str (PV.asStr (List.headD (List.drop (Int.toNat i * 3) (encN u)) PV.nilp)), PV.sl (PV.slN (List.headD (List.tail (List.drop (Int.toNat i * 3) (encN u))) PV.nilp)) (PV.slL (List.headD (List.tail (List.drop (Int.toNat i * 3) (encN u))) PV.nilp)), PV.str (PV.asStr (List.headD (List.tail (List.tail (List.drop (Int.toNat i * 3) (encN u)))) PV.nilp))])))
 (some (.inr (.ret, [(.pv (.sl (List.length l) (encN l)), none), (.pv (.bool false), none)])))
 (some (.inl [(.pv (.sl (List.length l) (encN l)), none), (.pv (.sl (List.length u) (encN u)), none), (.pv (.int .i64 (IntKind.wrap .i64 (i + 1))), none)])))
 none)
 none)
 none)
 none)
 none)
 (some (.inr (.exit 0, [(.pv (.sl (List.length l) (encN l)), none), (.bad, none)]))) := by kernel_rfl
theorem jmd (l : List NodeT) (u : List NodeT) : jsC brC l u =
 brC ((↑(List.length l) : Int) != (↑(List.length u) : Int))
 (some ((.cv (.pv (.bool false)), [])))
 (brC (isNs (pNs l) && isNs (pNs u) && 0 == 0 && decide (List.length (asNs (pNs l)) = List.length (asNs (pNs u))) && holds (asNs (pNs l) = asNs (pNs u)))
 (some ((.cv (.pv (.bool true)), [])))
 (brC (isNs (pNs l) && isNs (pNs u) && 0 == 0 && decide (List.length (asNs (pNs l)) = List.length (asNs (pNs u))))
 (some ((.cv (.pv (.bool false)), [])))
 none)) := by kernel_rfl
theorem jnd (k : Int) (i : Int) : jr6 brC k i =
 brC (decide (i < (↑0 : Int)))
 (brC (decide (1 ≤ k) && holds (k ≤ 1000000000))
 (brC (decide (0 ≤ i) && decide (i < (↑0 : Int)))
 none
 none)
 none)
 (some (.inr (.exit 0, [(.pv (.sl 0 []), none), (.pv (.int .i64 k), none)]))) := by kernel_rfl
theorem joS (x : NodeT) (y : NodeT) : jtK brC x y =
 brC (!ByteArray.toList (NodeT.name x) == ByteArray.toList (NodeT.name y))
 (some ((.cv (.pv (.bool false)), [])))
 (brC (isL (PV.sl (List.length (NodeT.subs x)) (List.map PV.str (NodeT.subs x))) && isL (PV.sl (List.length (NodeT.subs y)) (List.map PV.str (NodeT.subs y))))
 (brC (!holds (asL (PV.sl (List.length (NodeT.subs x)) (List.map PV.str (NodeT.subs x))) = asL (PV.sl (List.length (NodeT.subs y)) (List.map PV.str (NodeT.subs y)))))
 (some ((.cv (.pv (.bool false)), [])))
 (brC (!ByteArray.toList (NodeT.value x) == ByteArray.toList (NodeT.value y))
 (some ((.cv (.pv (.bool false)), [])))
 (some ((.cv (.pv (.bool true)), [])))))
 none) := by kernel_rfl
end
section
open Go.RowKit Go.ChangeShapes Go.WideShapes
theorem jr9 {w : World} {b : Nat} {xs : List Value} (h : ∃ t f, w.heap[b]? = some (.cells xs.toArray t f)) : GlRow w (jbX w) b xs := by
  obtain ⟨t, f, h⟩ := h
  refine ⟨⟨t, f, h⟩, ?_⟩
  unfold jbX
  rw [h]
  simp
theorem jnu {w : World} {name : String} {g : Nat} {k : IntKind} {zs : List Int} (hg : Tryz.prog.globalNamed name = some g) (h : Lib.TabIs Tryz.prog w name k zs) : GlRow w (jbX w) g (zs.map fun z => Value.int k z) := by
  unfold Lib.TabIs World.var? at h
  rw [hg] at h
  dsimp only [Option.bind_some] at h
  split at h
  · rename_i cs t f hb
    cases h
    exact jr9 ⟨t, f, hb⟩
  · cases h
theorem gl_top {w : World}
  (hm : ∃ m : Int, w.cell? ⟨0, 0, none⟩ = some (.int .i64 m))
  (ht : Lib.TabIs Tryz.prog w "internal/strconv.uint64pow10" .u64 Lib.pow10Tab)
  : Gl w (jbX w) := by
  unfold Gl
  refine ⟨?_, ?_⟩
  · obtain ⟨m, hm⟩ := hm
    exact ⟨m, hm, jjm hm⟩
  refine ⟨jnu (by kernel_rfl) ht, ?_⟩
  trivial
end
section
open Go.RowKit
theorem jnL : ∀ (l : List ByteArray) (k : Int), ∀ x ∈ mkL k l, x.size ≤ 21
  | [], _, x, hx => by cases hx
  | y :: t, k, x, hx => by
    rcases List.mem_cons.1 hx with rfl | hx
    · exact jg5 k
    · exact jnL t (k + 1) x hx
theorem jhA {k : Int} (h : mrkB k = true) : decide (1 ≤ k) = true ∧ holds (k ≤ 100000000) = true := andE h
theorem jrS {k : Int} (h1 : 1 ≤ k) (h2 : k ≤ 100000000) : mrkB k = true := by
  unfold mrkB
  rw [decide_eq_true h1, jag h2]
  rfl
def cNd (pre : List PV) (a b c : PV) (post : List PV) : List PV := pre ++ a :: b :: c :: post
theorem jnG {pre : List PV} {i : Nat} (h : pre.length = i * 3) (j : Nat) (mid : List PV) (x : PV) : List.take (i * 3 + j) (pre ++ mid) ++ [x] ++ List.drop (i * 3 + j + 1) (pre ++ mid) = pre ++ (mid.take j ++ [x] ++ mid.drop (j + 1)) := by
  rw [← h, List.take_length_add_append, Nat.add_assoc, List.drop_length_add_append]
  simp only [List.append_assoc]
theorem jtg {pre : List PV} {i : Nat} (h : pre.length = i * 3) (a b c z : PV) (post : List PV) : List.take (i * 3 + 0) (cNd pre a b c post) ++ [z] ++ List.drop (i * 3 + 0 + 1) (cNd pre a b c post) = cNd pre z b c post := jnG h 0 _ z
theorem jtD {pre : List PV} {i : Nat} (h : pre.length = i * 3) (a b c z : PV) (post : List PV) : List.take (i * 3 + 1) (cNd pre a b c post) ++ [z] ++ List.drop (i * 3 + 1 + 1) (cNd pre a b c post) = cNd pre a z c post := jnG h 1 _ z
theorem jtv {pre : List PV} {i : Nat} (h : pre.length = i * 3) (a b c z : PV) (post : List PV) : List.take (i * 3 + 2) (cNd pre a b c post) ++ [z] ++ List.drop (i * 3 + 2 + 1) (cNd pre a b c post) = cNd pre a b z post := jnG h 2 _ z
theorem joI {pre : List PV} {i : Nat} (h : pre.length = i * 3) (a b c : PV) (post : List PV) : (cNd pre a b c post).length = i * 3 + 3 + post.length := by
  unfold cNd
  rw [List.length_append, h]
  simp only [List.length_cons]
  omega
theorem cNd_b {pre : List PV} {i : Nat} (h : pre.length = i * 3) (a b c : PV) (post : List PV) (j : Nat) (hj : j < 3) : Nat.ble (i * 3 + j + 1) (cNd pre a b c post).length = true := Nat.ble_eq_true_of_le (by rw [joI h]; omega)
theorem jrW (i : Nat) : noKid 88 3 (i * 3 + 0) = true := by
  unfold noKid
  rw [show (i * 3 + 0) % 3 = 0 by omega]
  kernel_rfl
theorem jtN {pre : List PV} {i : Nat} (h : pre.length = i * 3) (a b c : PV) (post : List PV) : Nat.blt (i * 3 + 1) (cNd pre a b c post).length = true := Nat.ble_eq_true_of_le (by rw [joI h]; omega)
theorem js9 {pre : List PV} {i : Nat} (h : pre.length = i * 3) (a b c : PV) (post : List PV) : List.headD (List.drop (i * 3 + 1) (cNd pre a b c post)) PV.nilp = b := by
  unfold cNd
  rw [← h, List.drop_length_add_append]
  rfl
theorem jrY (i : Nat) : isKid 88 3 (i * 3 + 1) 1 9 = true := by
  unfold isKid
  rw [show (i * 3 + 1) % 3 = 1 by omega]
  kernel_rfl
theorem jsH (i : Nat) : noKid 88 3 (i * 3 + 2) = true := by
  unfold noKid
  rw [show (i * 3 + 2) % 3 = 2 by omega]
  kernel_rfl
theorem jiq : ∀ (k : Int) (l : List NodeT), (mkNds k l).length = l.length
  | k, [] => rfl
  | k, x :: t => by unfold mkNds; rw [List.length_cons, List.length_cons, jiq _ t]
theorem jmI (y : NodeT) (u : List NodeT) : encN (y :: u) = [PV.str y.name, PV.sl y.subs.length (y.subs.map .str), PV.str y.value] ++ encN u := rfl
theorem joo (n : Nat) (hn : n ≤ 5000) : ∀ (l : List NodeT) (i : Nat) (pre : List PV) (k : Int), i + l.length = n → pre.length = i * 3 → (∀ x ∈ l, shN x) → 1 ≤ k → k ≤ 100000000 + 100012 * i →
    LoopsTo (rdB brC Tryz.prog kfb1 jbP jdo Tryz.f51 2 [0]) [aWNd (pre ++ encN l) n, aI k, aI i] (.exit 0, [aWNd (pre ++ encN (mkNds k l)) n, aI (mkNdE k l)]) := by
  intro l
  induction l with
  | nil =>
    intro i pre k hi hp hl h1 h2
    refine .done _ _ ((jik _ _ _ _).trans ?_)
    try delta zzam1
    try delta zzam0
    rw [List.length_nil] at hi
    rw [dF (by omega)]
    rfl
  | cons x t ih =>
    intro i pre k hi hp hl h1 h2
    rw [List.length_cons] at hi
    have hx := hl x (List.mem_cons_self ..)
    have hxl1 : shL x.subs := hx.2.1
    have hz1 : x.subs.length ≤ 100000 := hxl1.1
    have tree := jik n (cNd pre (.str x.name) (.sl x.subs.length (x.subs.map .str)) (.str x.value) (encN t)) k i
    revert tree; try delta zzam1; intro tree
    revert tree; try delta zzam0; intro tree
    have hs0 : holds (k ≤ 1000000000) = true := jag (by omega)
    have ds0 : decide (1 ≤ k) = true := dT (by omega)
    have w0 : IntKind.wrap .i64 (k + 1) = k + 1 := by rw [wrapI (by omega) (by omega)]
    have hs1 : holds (k + 1 ≤ 900000000) = true := jag (by omega)
    have ds1 : decide (1 ≤ k + 1) = true := dT (by omega)
    have dn1 : decide (k + 1 + (x.subs.length : Int) < 0) = false := dF (by omega)
    have il1 : isE pL shL (PV.sl x.subs.length (x.subs.map .str)) = true := jaq hxl1
    have al1 : asE pL (PV.sl x.subs.length (x.subs.map .str)) = x.subs := jam x.subs
    have hs2 : holds (k + 1 + (x.subs.length : Int) ≤ 1000000000) = true := jag (by omega)
    have ds2 : decide (1 ≤ k + 1 + (x.subs.length : Int)) = true := dT (by omega)
    have w2 : IntKind.wrap .i64 (k + 1 + (x.subs.length : Int) + 1) = k + 2 + (x.subs.length : Int) := by rw [wrapI (by omega) (by omega)]; omega
    have d0 : decide ((i : Int) < (n : Int)) = true := dT (by omega)
    have d1 : decide (0 ≤ (i : Int)) = true := dT (by omega)
    simp only [Int.toNat_natCast, d0, d1, wrap1 (show i ≤ 2305843009213693952 by omega), jtg hp, jtD hp, jtv hp, cNd_b hp _ _ _  _ 0 (by decide), cNd_b hp _ _ _  _ 1 (by decide), cNd_b hp _ _ _  _ 2 (by decide), jtN hp, js9 hp, PV.isSl, PV.slN, PV.slL, jrW i, jrY i, jsH i, isL, asL, Nat.beq_refl, jds, hs0, ds0, w0, hs1, ds1, dn1, il1, al1, hs2, ds2, w2, Bool.and_true, Bool.true_and] at tree
    have := ih (i + 1) (pre ++ [.str (mkV (k)), .sl x.subs.length ((mkL (k + 1) x.subs).map .str), .str (mkV (k + 1 + (x.subs.length : Int)))]) (k + 2 + (x.subs.length : Int)) (by omega) (by rw [List.length_append, hp]; simp only [List.length_cons, List.length_nil]; omega) (fun y hy => hl y (List.mem_cons_of_mem _ hy)) (by omega) (by omega)
    rw [List.append_assoc, List.append_assoc] at this
    have e : pre ++ encN (mkNds k (x :: t)) = pre ++ ([.str (mkV (k)), .sl x.subs.length ((mkL (k + 1) x.subs).map .str), .str (mkV (k + 1 + (x.subs.length : Int)))] ++ encN (mkNds (k + 2 + (x.subs.length : Int)) t)) := by
      rw [show mkNds k (x :: t) = mkNd k x :: mkNds (k + 2 + (x.subs.length : Int)) t from rfl, jmI]
      simp only [mkNd, jds] <;> rfl
    rw [e]
    exact .step _ _ _ tree this
theorem jgD : ∀ b ∈ jau (jbg Tryz.f51), jbk Tryz.prog (tabL kfb1) (OL jbP) Tryz.f51.ntmps (pbOf [0]) jdo b := by
  refine jav 2 (by kernel_rfl) (by kernel_rfl) (by kernel_rfl) ?_
  intro ls e ls' hl
  replace hl : pickA (jfm ls) = some (e, ls') := hl
  unfold jfm at hl
  split at hl
  · rename_i x e n l k i
    obtain ⟨hc, he⟩ := pick1 hl
    cases he
    obtain ⟨hc, g6⟩ := andE hc
    obtain ⟨hc, g5⟩ := andE hc
    obtain ⟨hc, g4⟩ := andE hc
    obtain ⟨hc, g3⟩ := andE hc
    obtain ⟨hc, g2⟩ := andE hc
    obtain ⟨g0, g1⟩ := andE hc
    obtain ⟨t, q_t, h_t⟩ := jax g0
    injection q_t with qa qb
    subst qa
    subst qb
    have e_t : asE pNs (.sl t.length (encN t)) = t := ja0 t
    obtain rfl := nqB g1
    obtain rfl := nqB g2
    obtain rfl := eq_of_beq g3
    unfold asNs
    rw [e_t]
    have g5 := jai g5
    exact joo t.length (of_decide_eq_true g6) t 0 [] k (by omega) rfl h_t.2 (of_decide_eq_true g4) (by omega)
  · rename_i x e n l k i
    obtain ⟨hc, he⟩ := pick1 hl
    cases he
    obtain ⟨hc, g4⟩ := andE hc
    obtain ⟨hc, g3⟩ := andE hc
    obtain ⟨hc, g2⟩ := andE hc
    obtain ⟨g0, g1⟩ := andE hc
    obtain rfl := nqB g0
    obtain rfl := nqB g1
    obtain rfl := nqB g2
    obtain rfl := jbl g3
    obtain rfl := eq_of_beq g4
    refine .done _ _ ((jmK k 0).trans ?_)
    rw [dF (by omega)]
    rfl
  · cases hl
theorem jkc : ∀ b ∈ jau (jbg Tryz.f51), jbk Tryz.prog (tabL kfb1) (OL jbP) Tryz.f51.ntmps (pbOf []) jdW b := by
  refine jav 2 (by kernel_rfl) (by kernel_rfl) (by kernel_rfl) ?_
  intro ls e ls' hl
  unfold jdW at hl
  split at hl
  · rename_i n l k i
    obtain ⟨hc, he⟩ := pick1 hl
    cases he
    obtain ⟨hc, g2⟩ := andE hc
    obtain ⟨g0, g1⟩ := andE hc
    obtain rfl := nqB g0
    obtain rfl := jbl g1
    obtain rfl := eq_of_beq g2
    refine .done _ _ ((jnd k 0).trans ?_)
    rw [dF (by omega)]
    rfl
  · cases hl
theorem jpY : jac Tryz.prog 51 E_mkNda := jad mix jnO (lp := jbP) (LO := jdo) ⟨Tryz.func51, by kernel_rfl, by kernel_rfl⟩ (by kernel_rfl) fun ivs res bxs h => by
  unfold E_mkNda at h
  split at h
  · rename_i e n l k
    rcases pick2 h with ⟨hc, he⟩ | ⟨hn, hc, he⟩
    · cases he
      obtain ⟨hc, g4⟩ := andE hc
      obtain ⟨hc, gm⟩ := andE hc
      obtain ⟨g2, g3⟩ := jhA gm
      obtain ⟨g0, g1⟩ := andE hc
      obtain rfl := nqB g0
      refine ⟨jgD, (joe n l k).trans ?_⟩
      rw [g1, g2, g3, g4, Nat.beq_refl n]
      rfl
    · cases he
      obtain ⟨hc, g2⟩ := andE hc
      obtain ⟨g0, g1⟩ := andE hc
      obtain rfl := nqB g0
      obtain rfl := nqB g1
      obtain rfl := jbl g2
      refine ⟨jgD, (jma k).trans ?_⟩
      rw [jbs]
      rfl
  · cases h
theorem jqT : jac Tryz.prog 51 E_mkNdb := jad mix jnO (lp := jbP) (LO := jdW) ⟨Tryz.func51, by kernel_rfl, by kernel_rfl⟩ (by kernel_rfl) fun ivs res bxs h => by
  unfold E_mkNdb at h
  split at h
  · rename_i n l k
    obtain ⟨hc, he⟩ := pick1 h
    cases he
    obtain ⟨g0, g1⟩ := andE hc
    obtain rfl := nqB g0
    obtain rfl := jbl g1
    refine ⟨jkc, (jmB k).trans ?_⟩
    rw [jbs]
    rfl
  · cases h
theorem jrU : jac Tryz.prog 51 E_mkNd := joL jpY jqT
theorem jnY (k : Int) (x : NodeT) : mkNd k (mkNd k x) = mkNd k x := by
  unfold mkNd
  simp only [jds, jl1]
theorem jlZ (k : Int) (x : NodeT) : (fun x : NodeT => (k + 2 + (x.subs.length : Int) : Int)) (mkNd k x) = k + 2 + (x.subs.length : Int) := by
  unfold mkNd
  simp only [jds]
theorem jgn : ∀ (k : Int) (l : List NodeT), mkNds k (mkNds k l) = mkNds k l
  | k, [] => rfl
  | k, x :: t => by
    show mkNd k (mkNd k x) :: mkNds ((fun x : NodeT => (k + 2 + (x.subs.length : Int) : Int)) (mkNd k x)) (mkNds (k + 2 + (x.subs.length : Int)) t) = mkNd k x :: mkNds (k + 2 + (x.subs.length : Int)) t
    rw [jnY, jlZ, jgn]
theorem jlf : ∀ (k : Int) (l : List NodeT), mkNdE k (mkNds k l) = mkNdE k l
  | k, [] => rfl
  | k, x :: t => by
    show mkNdE ((fun x : NodeT => (k + 2 + (x.subs.length : Int) : Int)) (mkNd k x)) (mkNds (k + 2 + (x.subs.length : Int)) t) = mkNdE (k + 2 + (x.subs.length : Int)) t
    rw [jlZ, jlf]
theorem jhw : ∀ (l : List NodeT) (k : Int), k ≤ mkNdE k l
  | [], k => Int.le_refl _
  | x :: t, k => by
    have := jhw t (k + 2 + (x.subs.length : Int))
    show k ≤ mkNdE (k + 2 + (x.subs.length : Int)) t
    omega
theorem joP : ∀ (l u : List NodeT) (i : Nat) (k : Int), u = l.drop i → i + u.length = l.length → l.length ≤ 5000 → (∀ x ∈ u, shN x) → 1 ≤ k → k ≤ 100000000 + 100012 * i → u = mkNds k u →
    LoopsTo (rdB brC Tryz.prog kfb4 jhj jhI Tryz.f52 2 []) [aP (pNs l), aI k, aI i] (.exit 0, [aI (mkNdE k u)]) := by
  intro l u
  induction u with
  | nil =>
    intro i k hu hi hn hl h1 h2 hd
    refine .done _ _ ((ji0 _ _ _).trans ?_)
    try delta zzal0
    rw [List.length_nil] at hi
    rw [dF (by omega)]
    rfl
  | cons x t ih =>
    intro i k hu hi hn hl h1 h2 hd
    rw [List.length_cons] at hi
    have hil : i < l.length := by omega
    have hx := hl x (List.mem_cons_self ..)
    have hxl1 : shL x.subs := hx.2.1
    have hz1 : x.subs.length ≤ 100000 := hxl1.1
    have tree := ji0 l k i
    revert tree; try delta zzal0; intro tree
    rw [List.drop_eq_getElem_cons hil] at hu
    injection hu with hu1 hu2
    have hdr := jba l i hil
    rw [← hu1, ← hu2] at hdr
    rw [show mkNds k (x :: t) = mkNd k x :: mkNds (k + 2 + (x.subs.length : Int)) t from rfl] at hd
    injection hd with hd1 hd2
    have ff0 : x.name = mkV (k) := congrArg NodeT.name hd1
    have ff1 : x.subs = mkL (k + 1) x.subs := congrArg NodeT.subs hd1
    have ff2 : x.value = mkV (k + 1 + (x.subs.length : Int)) := congrArg NodeT.value hd1
    have hh1 : holds (x.subs = mkL (k + 1) x.subs) = true := jag ff1
    have hs0 : holds (k ≤ 1000000000) = true := jag (by omega)
    have ds0 : decide (1 ≤ k) = true := dT (by omega)
    have w0 : IntKind.wrap .i64 (k + 1) = k + 1 := by rw [wrapI (by omega) (by omega)]
    have hs1 : holds (k + 1 ≤ 900000000) = true := jag (by omega)
    have ds1 : decide (1 ≤ k + 1) = true := dT (by omega)
    have dn1 : decide (k + 1 + (x.subs.length : Int) < 0) = false := dF (by omega)
    have il1 : isE pL shL (PV.sl x.subs.length (x.subs.map .str)) = true := jaq hxl1
    have al1 : asE pL (PV.sl x.subs.length (x.subs.map .str)) = x.subs := jam x.subs
    have hs2 : holds (k + 1 + (x.subs.length : Int) ≤ 1000000000) = true := jag (by omega)
    have ds2 : decide (1 ≤ k + 1 + (x.subs.length : Int)) = true := dT (by omega)
    have w2 : IntKind.wrap .i64 (k + 1 + (x.subs.length : Int) + 1) = k + 2 + (x.subs.length : Int) := by rw [wrapI (by omega) (by omega)]; omega
    have d0 : decide ((i : Int) < (l.length : Int)) = true := dT (by omega)
    have d1 : decide (0 ≤ (i : Int)) = true := dT (by omega)
    simp only [Int.toNat_natCast, hdr, List.drop_zero, List.drop_succ_cons, d0, d1, wrap1 (show i ≤ 2305843009213693952 by omega), List.length_cons, List.headD_cons, List.tail_cons, PV.isStr, PV.asStr, PV.isBool, PV.asBool, PV.isInt, PV.asInt, PV.isSl, PV.slN, PV.slL, ble1, ble2, ble3, ble4, ble5, ble6, blt0, isL, asL, Nat.beq_refl, hs0, ds0, w0, hs1, ds1, dn1, il1, al1, hs2, ds2, w2, hh1, Bool.and_true, Bool.true_and] at tree
    have bb0 : (x.name.toList == (mkV (k)).toList) = true := by rw [← ff0]; exact beq_self_eq_true _
    have bb2 : (x.value.toList == (mkV (k + 1 + (x.subs.length : Int))).toList) = true := by rw [← ff2]; exact beq_self_eq_true _
    rw [bb0, bb2] at tree
    have := ih (i + 1) (k + 2 + (x.subs.length : Int)) hu2 (by omega) hn (fun y hy => hl y (List.mem_cons_of_mem _ hy)) (by omega) (by omega) hd2
    exact .step _ _ _ tree this
theorem jrX : jac Tryz.prog 52 E_hdNd := jad mix jsG (lp := jhj) (LO := jhI) ⟨Tryz.func52, by kernel_rfl, by kernel_rfl⟩ (by kernel_rfl) fun ivs res bxs h => by
  unfold E_hdNd at h
  split at h
  · rename_i p k
    obtain ⟨hc, he⟩ := pick1 h
    cases he
    obtain ⟨hc, k4⟩ := andE hc
    obtain ⟨hc, k3⟩ := andE hc
    obtain ⟨k0, km⟩ := andE hc
    obtain ⟨k1, k2⟩ := jhA km
    obtain ⟨t, rfl, h_t⟩ := jax k0
    have e_t : asNs (pNs t) = t := ja0 t
    refine ⟨jav 2 (by kernel_rfl) (by kernel_rfl) (by kernel_rfl) ?_, (jns t k).trans ?_⟩
    · intro ls e ls' hl
      replace hl : pickA (jf1 ls) = some (e, ls') := hl
      unfold jf1 at hl
      split at hl
      · rename_i p k i
        obtain ⟨hc, he⟩ := pick1 hl
        cases he
        obtain ⟨hc, g5⟩ := andE hc
        obtain ⟨hc, g4⟩ := andE hc
        obtain ⟨hc, g3⟩ := andE hc
        obtain ⟨hc, g2⟩ := andE hc
        obtain ⟨g0, g1⟩ := andE hc
        obtain ⟨t, rfl, h_t⟩ := jax g0
        have e_t : asNs (pNs t) = t := ja0 t
        obtain rfl := eq_of_beq g1
        rw [e_t] at g4 g5 ⊢
        have g3 := jai g3
        exact joP t t 0 k rfl (by omega) (of_decide_eq_true g4) h_t.2 (of_decide_eq_true g2) (by omega) (jai g5)
      · cases hl
    · rw [e_t] at k3 k4 ⊢
      rw [k0, k1, k2, k3, k4]
      rfl
  · cases h
theorem eqvNd (x y : NodeT) : holds (x = y) = ((x.name.toList == y.name.toList) && (holds (x.subs = y.subs) && ((x.value.toList == y.value.toList)))) := by
  rw [Bool.eq_iff_iff]
  constructor
  · intro h
    have e := jai h
    subst e
    simp only [show ∀ z : List ByteArray, holds (z = z) = true from fun _ => jag rfl, show holds True = true from jag trivial, beq_self_eq_true, Bool.and_true]
  · intro h
    simp only [Bool.and_eq_true, beq_iff_eq] at h
    obtain ⟨h0, h1, h2⟩ := h
    have h1 := jai h1
    cases x
    cases y
    dsimp only at h0 h1 h2
    rw [ba_tl h0, h1, ba_tl h2]
    exact jag rfl
theorem jsv : jac Tryz.prog 116 E_eqNd := jad mix jsh (lp := []) (LO := LO0) ⟨Tryz.func116, by kernel_rfl, by kernel_rfl⟩ (by kernel_rfl) fun ivs res bxs h => by
  unfold E_eqNd at h
  split at h
  · rename_i p q
    obtain ⟨hc, he⟩ := pick1 h
    cases he
    obtain ⟨k0, k1⟩ := andE hc
    obtain ⟨x, rfl, h_x⟩ := jax k0
    obtain ⟨y, rfl, h_y⟩ := jax k1
    have e_x : asN (pN x) = x := jf3 x
    have e_y : asN (pN y) = y := jf3 y
    rw [e_x, e_y, eqvNd]
    refine ⟨jar (by kernel_rfl), (joS x y).trans ?_⟩
    have ix1 := jaq h_x.2.1
    have iy1 := jaq h_y.2.1
    simp only [isL, jam, ix1, iy1, Bool.and_true]
    generalize (x.name.toList == y.name.toList) = g0
    generalize holds (x.subs = y.subs) = g1
    generalize (x.value.toList == y.value.toList) = g2
    cases g0 <;> cases g1 <;> cases g2 <;> rfl
  · cases h
theorem jqq : jaf Tryz.prog eqbNd := ⟨jsv, trivial⟩
theorem jmf (l u : List NodeT) (h_l : shT l) (h_u : shT u) (hlu : l.length = u.length) : ∀ (m i : Nat), m + i = l.length → LoopsTo (rdB brC Tryz.prog eqbNd jdQ jdN Tryz.f50 4 []) [aP (pNs l), aP (pNs u), aI i] (if holds (l.drop i = u.drop i) = true then (.exit 0, [aP (pNs l), aX]) else (.ret, [aP (pNs l), aB false])) := by
  have hl := h_l.1
  intro m
  induction m with
  | zero =>
    intro i hm
    rw [List.drop_eq_nil_of_le (show l.length ≤ i by omega), List.drop_eq_nil_of_le (show u.length ≤ i by omega), if_pos (jag rfl)]
    refine .done _ _ ((jgW l u i).trans ?_)
    rw [dF (by omega)]
    rfl
  | succ m ih =>
    intro i hm
    have hi : i < l.length := by omega
    have hiu : i < u.length := by omega
    have tree := jgW l u i
    simp (disch := first | omega | rfl) only [isN, jlz (jeG h_l hi), jlz (jeG h_u hiu), jf3, dT, Int.toNat_natCast, jba l i hi, jba u i hiu, List.length_cons, List.headD_cons, List.tail_cons, PV.isStr, PV.asStr, PV.isSl, PV.slN, PV.slL, PV.isBool, PV.asBool, PV.isInt, PV.asInt, ble1, ble2, ble3, ble4, ble5, ble6, blt0, wrap1, Bool.and_true, Bool.true_and] at tree
    have ih' := ih (i + 1) (by omega)
    rw [List.drop_eq_getElem_cons hi, List.drop_eq_getElem_cons hiu]
    cases hb : holds (l[i] = u[i]) with
    | true =>
      rw [hb] at tree
      have e : l[i] = u[i] := jai hb
      have e2 : holds (l[i] :: List.drop (i + 1) l = u[i] :: List.drop (i + 1) u) = holds (List.drop (i + 1) l = List.drop (i + 1) u) := by
        congr 1
        rw [e]
        exact propext ⟨fun h => by injection h, fun h => by rw [h]⟩
      rw [e2]
      exact .step _ _ _ tree ih'
    | false =>
      rw [hb] at tree
      rw [if_neg (fun h => by
        have := jai h
        injection this with h1 _
        rw [jag h1] at hb
        cases hb)]
      exact .done _ _ tree
theorem jqo : jac Tryz.prog 50 E_eqNds := jad mix jqq (lp := jdQ) (LO := jdN) ⟨Tryz.func50, by kernel_rfl, by kernel_rfl⟩ (by kernel_rfl) fun ivs res bxs h => by
  unfold E_eqNds at h
  split at h
  · rename_i p q
    obtain ⟨hc, he⟩ := pick1 h
    cases he
    obtain ⟨k0, k1⟩ := andE hc
    obtain ⟨l, rfl, h_l⟩ := jax k0
    obtain ⟨u, rfl, h_u⟩ := jax k1
    have e_l : asNs (pNs l) = l := ja0 l
    have e_u : asNs (pNs u) = u := ja0 u
    have i_l : isNs (pNs l) = true := jb3 h_l
    have i_u : isNs (pNs u) = true := jb3 h_u
    rw [e_l, e_u]
    refine ⟨jav 4 (by kernel_rfl) (by kernel_rfl) (by kernel_rfl) ?_, ?_⟩
    · intro ls e ls' hl
      replace hl : pickA (jd7 ls) = some (e, ls') := hl
      unfold jd7 at hl
      split at hl
      · rename_i p q i
        have key : (isNs p && isNs q && (i == 0) && decide ((asNs p).length = (asNs q).length)) = true → LoopsTo (rdB brC Tryz.prog eqbNd jdQ jdN Tryz.f50 4 []) [aP p, aP q, aI i] (if holds (asNs p = asNs q) = true then (.exit 0, [aP p, aX]) else (.ret, [aP p, aB false])) := fun hc => by
          obtain ⟨hc, g3⟩ := andE hc
          obtain ⟨hc, g2⟩ := andE hc
          obtain ⟨g0, g1⟩ := andE hc
          obtain ⟨t, rfl, h_t⟩ := jax g0
          obtain ⟨v, rfl, h_v⟩ := jax g1
          have e_t : asNs (pNs t) = t := ja0 t
          have e_v : asNs (pNs v) = v := ja0 v
          rw [e_t, e_v] at g3 ⊢
          rw [eq_of_beq g2]
          exact jmf t v h_t h_v (of_decide_eq_true g3) t.length 0 rfl
        rcases pick2 hl with ⟨hc, he⟩ | ⟨hn, hc, he⟩
        · cases he
          obtain ⟨hc, k⟩ := andE hc
          have := key hc
          rw [if_pos k] at this
          exact this
        · cases he
          have := key hc
          rw [hc, Bool.true_and] at hn
          rw [hn, if_neg Bool.false_ne_true] at this
          exact this
      · cases hl
    · have tree := jmd l u
      rw [i_l, i_u, e_l, e_u] at tree
      by_cases hlen : l.length = u.length
      · have hb : (((l.length : Nat) : Int) == ((u.length : Nat) : Int)) = true := beq_iff_eq.2 (by omega)
        have hb2 : (((l.length : Nat) : Int) != ((u.length : Nat) : Int)) = false := by unfold bne; rw [hb]; rfl
        simp only [hb, hb2, decide_eq_true hlen, Bool.and_true, Bool.true_and, beq_self_eq_true] at tree
        cases hh : holds (l = u) with
        | true => rw [hh] at tree; exact tree.trans rfl
        | false => rw [hh] at tree; exact tree.trans rfl
      · have hb : (((l.length : Nat) : Int) == ((u.length : Nat) : Int)) = false := beq_eq_false_iff_ne.2 (by omega)
        have hb2 : (((l.length : Nat) : Int) != ((u.length : Nat) : Int)) = true := by unfold bne; rw [hb]; rfl
        have hh : holds (l = u) = false := @decide_eq_false _ (Classical.propDecidable _) fun e => hlen (by rw [e])
        simp only [hb, hb2] at tree
        rw [hh]
        exact tree.trans rfl
  · cases h
end
section
open Go.RowKit
noncomputable def rdb0 : List (FuncId × Entry) := (50, E_eqNds) :: (51, E_mkNd) :: [(52, E_hdNd)]
noncomputable def jtt (br : Br) (t u : List NodeT) := evB br Tryz.prog rdb0 [] LO0 Tryz.f10 [cP (pT t), cP (pT u)]
noncomputable def E_eqTr : Entry := fun ivs => match ivs with
  | [.cv (.pv p), .cv (.pv q)] => [(isT p && isT q, cB (holds (asT p = asT q)), [])]
  | _ => []
abbrev jkh : List (Nat × List Nat × List Nat) := [(1000000, [], [2, 6]), (1000001, [1600128], [])]
noncomputable def jtb (br : Br) (n : Nat) (l : List PV) (k : Int) := evB br Tryz.prog rdb0 jkh LO0 Tryz.f11 [.lk true [] 3 (88 + 2000000) n l [], cI k]
noncomputable def jrq (br : Br) (k : Int) := evB br Tryz.prog rdb0 jkh LO0 Tryz.f11 [cP (.agg [.sl 0 []]), cI k]
noncomputable def E_mkTr : Entry := fun ivs => match ivs with
  | [.lk true [] 3 e n l [], .cv (.pv (.int .i64 k))] =>
    [(Nat.beq e (88 + 2000000) && isNs (.sl n l) && mrkB k && decide (n ≤ 5000), cI (mkNdE k (asNs (.sl n l))), [[.dls 3 88 n (encN (mkNds k (asNs (.sl n l))))]])]
  | [.cv (.pv (.agg [.sl n l])), .cv (.pv (.int .i64 k))] => [(Nat.beq n 0 && nilB l, cI k, [])]
  | _ => []
noncomputable def jtz (br : Br) (t : List NodeT) (k : Int) := evB br Tryz.prog rdb0 [] LO0 Tryz.f12 [cP (pT t), cI k]
noncomputable def E_hdTr : Entry := fun ivs => match ivs with
  | [.cv (.pv p), .cv (.pv (.int .i64 k))] => [(isT p && mrkB k && decide ((asT p).length ≤ 5000) && holds (asT p = mkNds k (asT p)), cI (mkNdE k (asT p)), [])]
  | _ => []
noncomputable def rdb1 : List (FuncId × Entry) := (8, E_sun) :: (9, E_un) :: (10, E_eqTr) :: (11, E_mkTr) :: [(12, E_hdTr)]
abbrev jop : List (Nat × List Nat × List Nat) := [(1000000, [], [24, 33, 36, 49, 58]), (1000001, [1600560], [])]
noncomputable def jrp (br : Br) (s : ByteArray) := evB br Tryz.prog rdb1 jop LO0 Tryz.f3 [cS s]
end
section
theorem jmu (k : Int) : jrq brC k =
 brC (Nat.beq 0 0 && nilB [])
 (some ((.cv (.pv (.int .i64 k)), [])))
 none := by kernel_rfl
theorem jpK (t : List NodeT) (u : List NodeT) : jtt brC t u =
 brC (isNs (PV.sl (List.length t) (encN t)) && isNs (PV.sl (List.length u) (encN u)))
 (brC (!holds (asNs (PV.sl (List.length t) (encN t)) = asNs (PV.sl (List.length u) (encN u))))
 (some ((.cv (.pv (.bool false)), [])))
 (some ((.cv (.pv (.bool true)), []))))
 none := by kernel_rfl
theorem jpM (n : Nat) (l : List PV) (k : Int) : jtb brC n l k =
 brC (Nat.beq (88 + 2000000 - 2000000 + 2000000) 2000088 && isNs (PV.sl n l) && mrkB k && decide (n ≤ 5000))
 (brC (Nat.beq n n)
 (some ((.cv (.pv (.int .i64 (mkNdE k (asNs (PV.sl n l))))), [[.dls 3 88 n (encN (mkNds k (asNs (PV.sl n l))))]])))
 none)
 none := by kernel_rfl
theorem jnP (s : ByteArray) : jrp brC s =
 brC (decide ((↑(ByteArray.size s) : Int) > 1048576))
 (some ((.cv (.pv (.bool true)), [])))
 (brC (decide (ByteArray.size s ≤ 2000000) && holds (isTr s))
 (brC (decide (ByteArray.size s ≤ 2000000) && holds (isTr s) && Nat.beq (List.length (decT s)) 0)
 (brC (isT (PV.agg [PV.sl 0 []]) && isT (PV.agg [PV.sl (List.length (decT s)) (encN (decT s))]))
 (brC (!holds (asT (PV.agg [PV.sl 0 []]) = asT (PV.agg [PV.sl (List.length (decT s)) (encN (decT s))])))
 (some ((.cv (.pv (.bool false)), [])))
 (brC (Nat.beq 0 0 && nilB [])
 (brC (isT (PV.agg [PV.sl 0 []]) && mrkB 1 && decide (List.length (asT (PV.agg [PV.sl 0 []])) ≤ 5000) && holds (asT (PV.agg [PV.sl 0 []]) = mkNds 1 (asT (PV.agg [PV.sl 0 []]))))
 (brC (decide (mkNdE 1 (asT (PV.agg [PV.sl 0 []])) < 0))
 (some ((.cv (.pv (.bool false)), [])))
 (brC (mkNdE 1 (asT (PV.agg [PV.sl 0 []])) != 1)
 (some ((.cv (.pv (.bool false)), [])))
 (brC (decide (ByteArray.size s ≤ 2000000) && holds (isTr s) && Nat.beq (List.length (decT s)) 0)
 (brC (isT (PV.agg [PV.sl 0 []]) && isT (PV.agg [PV.sl (List.length (decT s)) (encN (decT s))]))
 (brC (!holds (asT (PV.agg [PV.sl 0 []]) = asT (PV.agg [PV.sl (List.length (decT s)) (encN (decT s))])))
 (some ((.cv (.pv (.bool false)), [])))
 (brC (isT (PV.agg [PV.sl 0 []]) && mrkB 1 && decide (List.length (asT (PV.agg [PV.sl 0 []])) ≤ 5000) && holds (asT (PV.agg [PV.sl 0 []]) = mkNds 1 (asT (PV.agg [PV.sl 0 []]))))
 (brC (decide (mkNdE 1 (asT (PV.agg [PV.sl 0 []])) < 0))
 (some ((.cv (.pv (.bool false)), [])))
 (brC (mkNdE 1 (asT (PV.agg [PV.sl 0 []])) != 1)
 (some ((.cv (.pv (.bool false)), [])))
 (some ((.cv (.pv (.bool true)), [])))))
 none))
 none)
 (brC (decide (ByteArray.size s ≤ 2000000) && holds (isTr s))
 (brC (isT (PV.agg [PV.sl (List.length (decT s)) (encN (decT s))]) && isT (PV.agg [PV.sl (List.length (decT s)) (encN (decT s))]))
 (brC (!holds (asT (PV.agg [PV.sl (List.length (decT s)) (encN (decT s))]) = asT (PV.agg [PV.sl (List.length (decT s)) (encN (decT s))])))
 (some ((.cv (.pv (.bool false)), [])))
 (brC (isT (PV.agg [PV.sl 0 []]) && mrkB 1 && decide (List.length (asT (PV.agg [PV.sl 0 []])) ≤ 5000) && holds (asT (PV.agg [PV.sl 0 []]) = mkNds 1 (asT (PV.agg [PV.sl 0 []]))))
 (brC (decide (mkNdE 1 (asT (PV.agg [PV.sl 0 []])) < 0))
 (some ((.cv (.pv (.bool false)), [])))
 (brC (mkNdE 1 (asT (PV.agg [PV.sl 0 []])) != 1)
 (some ((.cv (.pv (.bool false)), [])))
 (some ((.cv (.pv (.bool true)), [])))))
 none))
 none)
 (brC (decide (ByteArray.size s ≤ 2000000))
 (brC (isT (PV.agg [PV.sl 0 []]) && isT (PV.agg [PV.sl (List.length (decT s)) (encN (decT s))]))
 (brC (!holds (asT (PV.agg [PV.sl 0 []]) = asT (PV.agg [PV.sl (List.length (decT s)) (encN (decT s))])))
 (some ((.cv (.pv (.bool false)), [])))
 (some ((.cv (.pv (.bool false)), []))))
 none)
 none)))))
 none)
 none))
 none)
 (brC (decide (ByteArray.size s ≤ 2000000) && holds (isTr s))
 (brC (isT (PV.agg [PV.sl (List.length (decT s)) (encN (decT s))]) && isT (PV.agg [PV.sl (List.length (decT s)) (encN (decT s))]))
 (brC (!holds (asT (PV.agg [PV.sl (List.length (decT s)) (encN (decT s))]) = asT (PV.agg [PV.sl (List.length (decT s)) (encN (decT s))])))
 (some ((.cv (.pv (.bool false)), [])))
 (brC (Nat.beq (88 + 2000000) 2000088 && isNs (PV.sl (List.length (decT s)) (encN (decT s))) && mrkB 1 && decide (List.length (decT s) ≤ 5000))
 (brC (isT (PV.agg [PV.sl (List.length (decT s)) (encN (mkNds 1 (asNs (PV.sl (List.length (decT s)) (encN (decT s))))))]) && mrkB 1 && decide (List.length (asT (PV.agg [PV.sl (List.length (decT s)) (encN (mkNds 1 (asNs (PV.sl (List.length (decT s)) (encN (decT s))))))])) ≤ 5000) && holds (asT (PV.agg [PV.sl (List.length (decT s)) (encN (mkNds 1 (asNs (PV.sl (List.length (decT s)) (encN (decT s))))))]) = mkNds 1 (asT (PV.agg [PV.sl (List.length (decT s)) (encN (mkNds 1 (asNs (PV.sl (List.length (decT s)) (encN (decT s))))))]))))
 (brC (decide (mkNdE 1 (asT (PV.agg [PV.sl (List.length (decT s)) (encN (mkNds 1 (asNs (PV.sl (List.length (decT s)) (encN (decT s))))))])) < 0))
 (some ((.cv (.pv (.bool false)), [])))
 (brC (mkNdE 1 (asT (PV.agg [PV.sl (List.length (decT s)) (encN (mkNds 1 (asNs (PV.sl (List.length (decT s)) (encN (decT s))))))])) != mkNdE 1 (asNs (PV.sl (List.length (decT s)) (encN (decT s)))))
 (some ((.cv (.pv (.bool false)), [])))
 (brC (decide (ByteArray.size s ≤ 2000000) && holds (isTr s) && Nat.beq (List.length (decT s)) 0)
 (brC (isT (PV.agg [PV.sl 0 []]) && isT (PV.agg [PV.sl (List.length (decT s)) (encN (decT s))]))
 (brC (!holds (asT (PV.agg [PV.sl 0 []]) = asT (PV.agg [PV.sl (List.length (decT s)) (encN (decT s))])))
 (some ((.cv (.pv (.bool false)), [])))
 (brC (isT (PV.agg [PV.sl (List.length (decT s)) (encN (mkNds 1 (asNs (PV.sl (List.length (decT s)) (encN (decT s))))))]) && mrkB 1 && decide (List.length (asT (PV.agg [PV.sl (List.length (decT s)) (encN (mkNds 1 (asNs (PV.sl (List.length (decT s)) (encN (decT s))))))])) ≤ 5000) && holds (asT (PV.agg [PV.sl (List.length (decT s)) (encN (mkNds 1 (asNs (PV.sl (List.length (decT s)) (encN (decT s))))))]) = mkNds 1 (asT (PV.agg [PV.sl (List.length (decT s)) (encN (mkNds 1 (asNs (PV.sl (List.length (decT s)) (encN (decT s))))))]))))
 (brC (decide (mkNdE 1 (asT (PV.agg [PV.sl (List.length (decT s)) (encN (mkNds 1 (asNs (PV.sl (List.length (decT s)) (encN (decT s))))))])) < 0))
 (some ((.cv (.pv (.bool false)), [])))
 (brC (mkNdE 1 (asT (PV.agg [PV.sl (List.length (decT s)) (encN (mkNds 1 (asNs (PV.sl (List.length (decT s)) (encN (decT s))))))])) != mkNdE 1 (asNs (PV.sl (List.length (decT s)) (encN (decT s)))))
 (some ((.cv (.pv (.bool false)), [])))
 (some ((.cv (.pv (.bool true)), [])))))
 none))
 none)
 (brC (decide (ByteArray.size s ≤ 2000000) && holds (isTr s))
 (brC (isT (PV.agg [PV.sl (List.length (decT s)) (encN (decT s))]) && isT (PV.agg [PV.sl (List.length (decT s)) (encN (decT s))]))
 (brC (!holds (asT (PV.agg [PV.sl (List.length (decT s)) (encN (decT s))]) = asT (PV.agg [PV.sl (List.length (decT s)) (encN (decT s))])))
 (some ((.cv (.pv (.bool false)), [])))
 (brC (isT (PV.agg [PV.sl (List.length (decT s)) (encN (mkNds 1 (asNs (PV.sl (List.length (decT s)) (encN (decT s))))))]) && mrkB 1 && decide (List.length (asT (PV.agg [PV.sl (List.length (decT s)) (encN (mkNds 1 (asNs (PV.sl (List.length (decT s)) (encN (decT s))))))])) ≤ 5000) && holds (asT (PV.agg [PV.sl (List.length (decT s)) (encN (mkNds 1 (asNs (PV.sl (List.length (decT s)) (encN (decT s))))))]) = mkNds 1 (asT (PV.agg [PV.sl (List.length (decT s)) (encN (mkNds 1 (asNs (PV.sl (List.length (decT s)) (encN (decT s))))))]))))
 (brC (decide (mkNdE 1 (asT (PV.agg [PV.sl (List.length (decT s)) (encN (mkNds 1 (asNs (PV.sl (List.length (decT s)) (encN (decT s))))))])) < 0))
 (some ((.cv (.pv (.bool false)), [])))
 (brC (mkNdE 1 (asT (PV.agg [PV.sl (List.length (decT s)) (encN (mkNds 1 (asNs (PV.sl (List.length (decT s)) (encN (decT s))))))])) != mkNdE 1 (asNs (PV.sl (List.length (decT s)) (encN (decT s)))))
 (some ((.cv (.pv (.bool false)), [])))
 (some ((.cv (.pv (.bool true)), [])))))
 none))
 none)
 (brC (decide (ByteArray.size s ≤ 2000000))
 (brC (isT (PV.agg [PV.sl 0 []]) && isT (PV.agg [PV.sl (List.length (decT s)) (encN (decT s))]))
 (brC (!holds (asT (PV.agg [PV.sl 0 []]) = asT (PV.agg [PV.sl (List.length (decT s)) (encN (decT s))])))
 (some ((.cv (.pv (.bool false)), [])))
 (some ((.cv (.pv (.bool false)), []))))
 none)
 none)))))
 none)
 none))
 none)
 (brC (decide (ByteArray.size s ≤ 2000000))
 (brC (isT (PV.agg [PV.sl 0 []]) && isT (PV.agg [PV.sl (List.length (decT s)) (encN (decT s))]))
 (brC (!holds (asT (PV.agg [PV.sl 0 []]) = asT (PV.agg [PV.sl (List.length (decT s)) (encN (decT s))])))
 (some ((.cv (.pv (.bool false)), [])))
 (some ((.cv (.pv (.bool false)), []))))
 none)
 none)))
 (brC (decide (ByteArray.size s ≤ 2000000))
 (brC (decide (ByteArray.size s ≤ 2000000) && holds (isTr s) && Nat.beq (List.length (decT s)) 0)
 (brC (isT (PV.agg [PV.sl 0 []]) && isT (PV.agg [PV.sl 0 []]))
 (brC (!holds (asT (PV.agg [PV.sl 0 []]) = asT (PV.agg [PV.sl 0 []])))
 (some ((.cv (.pv (.bool false)), [])))
 (some ((.cv (.pv (.bool false)), []))))
 none)
 (brC (decide (ByteArray.size s ≤ 2000000) && holds (isTr s))
 (brC (isT (PV.agg [PV.sl (List.length (decT s)) (encN (decT s))]) && isT (PV.agg [PV.sl 0 []]))
 (brC (!holds (asT (PV.agg [PV.sl (List.length (decT s)) (encN (decT s))]) = asT (PV.agg [PV.sl 0 []])))
 (some ((.cv (.pv (.bool false)), [])))
 (some ((.cv (.pv (.bool false)), []))))
 none)
 (brC (decide (ByteArray.size s ≤ 2000000))
 (brC (isT (PV.agg [PV.sl 0 []]) && isT (PV.agg [PV.sl 0 []]))
 (brC (!holds (asT (PV.agg [PV.sl 0 []]) = asT (PV.agg [PV.sl 0 []])))
 (some ((.cv (.pv (.bool false)), [])))
 (brC (Nat.beq 0 0 && nilB [])
 (brC (isT (PV.agg [PV.sl 0 []]) && mrkB 1 && decide (List.length (asT (PV.agg [PV.sl 0 []])) ≤ 5000) && holds (asT (PV.agg [PV.sl 0 []]) = mkNds 1 (asT (PV.agg [PV.sl 0 []]))))
 (brC (decide (mkNdE 1 (asT (PV.agg [PV.sl 0 []])) < 0))
 (some ((.cv (.pv (.bool false)), [])))
 (brC (mkNdE 1 (asT (PV.agg [PV.sl 0 []])) != 1)
 (some ((.cv (.pv (.bool false)), [])))
 (brC (decide (ByteArray.size s ≤ 2000000) && holds (isTr s) && Nat.beq (List.length (decT s)) 0)
 (brC (isT (PV.agg [PV.sl 0 []]) && isT (PV.agg [PV.sl 0 []]))
 (brC (!holds (asT (PV.agg [PV.sl 0 []]) = asT (PV.agg [PV.sl 0 []])))
 (some ((.cv (.pv (.bool false)), [])))
 (some ((.cv (.pv (.bool false)), []))))
 none)
 (brC (decide (ByteArray.size s ≤ 2000000) && holds (isTr s))
 (brC (isT (PV.agg [PV.sl (List.length (decT s)) (encN (decT s))]) && isT (PV.agg [PV.sl 0 []]))
 (brC (!holds (asT (PV.agg [PV.sl (List.length (decT s)) (encN (decT s))]) = asT (PV.agg [PV.sl 0 []])))
 (some ((.cv (.pv (.bool false)), [])))
 (some ((.cv (.pv (.bool false)), []))))
 none)
 (brC (decide (ByteArray.size s ≤ 2000000))
 (brC (isT (PV.agg [PV.sl 0 []]) && isT (PV.agg [PV.sl 0 []]))
 (brC (!holds (asT (PV.agg [PV.sl 0 []]) = asT (PV.agg [PV.sl 0 []])))
 (some ((.cv (.pv (.bool false)), [])))
 (brC (isT (PV.agg [PV.sl 0 []]) && mrkB 1 && decide (List.length (asT (PV.agg [PV.sl 0 []])) ≤ 5000) && holds (asT (PV.agg [PV.sl 0 []]) = mkNds 1 (asT (PV.agg [PV.sl 0 []]))))
 (brC (decide (mkNdE 1 (asT (PV.agg [PV.sl 0 []])) < 0))
 (some ((.cv (.pv (.bool false)), [])))
 (brC (mkNdE 1 (asT (PV.agg [PV.sl 0 []])) != 1)
 (some ((.cv (.pv (.bool false)), [])))
 (some ((.cv (.pv (.bool true)), [])))))
 none))
 none)
 none)))))
 none)
 none))
 none)
 none)))
 none)) := by kernel_rfl
theorem jom (t : List NodeT) (k : Int) : jtz brC t k =
 brC (isNs (PV.sl (List.length t) (encN t)) && mrkB k && decide (List.length (asNs (PV.sl (List.length t) (encN t))) ≤ 5000) && holds (asNs (PV.sl (List.length t) (encN t)) = mkNds k (asNs (PV.sl (List.length t) (encN t)))))
 (brC (decide (mkNdE k (asNs (PV.sl (List.length t) (encN t))) < 0))
 (some ((.cv (.pv (.int .i64 (Int.negSucc 0))), [])))
 (some ((.cv (.pv (.int .i64 (mkNdE k (asNs (PV.sl (List.length t) (encN t)))))), []))))
 none := by kernel_rfl
end
section
open Go.RowKit
theorem jj9 : jaf Tryz.prog rdb0 := ⟨jqo, jrU, jrX, trivial⟩
theorem jrG : jac Tryz.prog 10 E_eqTr := jad mix jj9 (lp := []) (LO := LO0) ⟨Tryz.func10, by kernel_rfl, by kernel_rfl⟩ (by kernel_rfl) fun ivs res bxs h => by
  unfold E_eqTr at h
  split at h
  · rename_i p q
    obtain ⟨hc, he⟩ := pick1 h
    cases he
    obtain ⟨k0, k1⟩ := andE hc
    obtain ⟨t, rfl, h_t⟩ := jax k0
    obtain ⟨u, rfl, h_u⟩ := jax k1
    have e_t : asT (pT t) = t := jby t
    have e_u : asT (pT u) = u := jby u
    rw [e_t, e_u]
    refine ⟨jar (by kernel_rfl), (jpK t u).trans ?_⟩
    rw [show isNs (PV.sl t.length (encN t)) = true from jb3 h_t, show isNs (PV.sl u.length (encN u)) = true from jb3 h_u, show asNs (PV.sl t.length (encN t)) = t from ja0 t, show asNs (PV.sl u.length (encN u)) = u from ja0 u]
    cases holds (t = u) <;> rfl
  · cases h
theorem jrt : jac Tryz.prog 11 E_mkTr := jad mix jj9 (lp := jkh) (LO := LO0) ⟨Tryz.func11, by kernel_rfl, by kernel_rfl⟩ (by kernel_rfl) fun ivs res bxs h => by
  unfold E_mkTr at h
  split at h
  · rename_i e n l k
    obtain ⟨hc, he⟩ := pick1 h
    cases he
    obtain ⟨hc, k3⟩ := andE hc
    obtain ⟨hc, k2⟩ := andE hc
    obtain ⟨k0, k1⟩ := andE hc
    obtain rfl := nqB k0
    refine ⟨jar (by kernel_rfl), (jpM n l k).trans ?_⟩
    rw [k1, k2, k3, Nat.beq_refl n]
    rfl
  · rename_i n l k
    obtain ⟨hc, he⟩ := pick1 h
    cases he
    obtain ⟨k0, k1⟩ := andE hc
    obtain rfl := nqB k0
    obtain rfl := jbl k1
    refine ⟨jar (by kernel_rfl), (jmu k).trans ?_⟩
    rw [jbs]
    rfl
  · cases h
theorem jrV : jac Tryz.prog 12 E_hdTr := jad mix jj9 (lp := []) (LO := LO0) ⟨Tryz.func12, by kernel_rfl, by kernel_rfl⟩ (by kernel_rfl) fun ivs res bxs h => by
  unfold E_hdTr at h
  split at h
  · rename_i p k
    obtain ⟨hc, he⟩ := pick1 h
    cases he
    obtain ⟨hc, k3⟩ := andE hc
    obtain ⟨hc, k2⟩ := andE hc
    obtain ⟨k0, k1⟩ := andE hc
    obtain ⟨t, rfl, h_t⟩ := jax k0
    have e_t : asT (pT t) = t := jby t
    rw [e_t] at k2 k3 ⊢
    refine ⟨jar (by kernel_rfl), (jom t k).trans ?_⟩
    have hge := jhw t k
    have h1 := of_decide_eq_true (jhA k1).1
    rw [show isNs (PV.sl t.length (encN t)) = true from jb3 h_t, show asNs (PV.sl t.length (encN t)) = t from ja0 t, k1, k2, k3, dF (show ¬ mkNdE k t < 0 by omega)]
    rfl
  · cases h
theorem jlo : ∀ (l : List NodeT) (k : Int), (∀ x ∈ l, shN x) → ∀ x ∈ mkNds k l, shN x
  | [], _, _, x, hx => by cases hx
  | y :: t, k, h, x, hx => by
    rcases List.mem_cons.1 hx with rfl | hx
    · have hy := h y (List.mem_cons_self ..)
      have a := jg5 k
      have b := jg5 (k + 1 + y.subs.length)
      refine ⟨?_, ⟨?_, fun z hz => ?_⟩, ?_⟩
      · show (mkV k).size ≤ 1000000
        omega
      · show (mkL (k + 1) y.subs).length ≤ _
        rw [jds]
        exact hy.2.1.1
      · have := jnL y.subs (k + 1) z hz
        omega
      · show (mkV (k + 1 + y.subs.length)).size ≤ 1000000
        omega
    · exact jlo t _ (fun z hz => h z (List.mem_cons_of_mem _ hz)) x hx
theorem jpz (s : ByteArray) : jrp brC s = some (cB true, []) := by
  refine (jnP s).trans ?_
  by_cases h : s.size ≤ 1048576
  · rw [dF (show ¬ (s.size : Int) > 1048576 by omega), dT (show s.size ≤ 2000000 by omega)]
    have i0 : isT (PV.agg [PV.sl 0 []]) = true := jcx (t := []) ⟨Nat.zero_le _, fun _ h => by cases h⟩
    have a0 : asT (PV.agg [PV.sl 0 []]) = [] := jby []
    have e0 : mkNds 1 ([] : List NodeT) = [] := rfl
    have e1 : mkNdE 1 ([] : List NodeT) = 1 := rfl
    have hm : mrkB 1 = true := jrS (by omega) (by omega)
    have hT : holds True = true := jag trivial
    have hh0 : holds (([] : List NodeT) = []) = true := jag rfl
    by_cases hI : isTr s
    · rw [jag hI]
      obtain ⟨xs, hx, rfl⟩ := hI
      rw [jfC hx]
      have hsh := jhh hx
      have hl := (jc6 hx).1
      have i1 : isT (PV.agg [PV.sl xs.length (encN xs)]) = true := jcx hsh
      have a1 : asT (PV.agg [PV.sl xs.length (encN xs)]) = xs := jby xs
      have i3 : isNs (PV.sl xs.length (encN xs)) = true := jb3 hsh
      have a3 : asNs (PV.sl xs.length (encN xs)) = xs := ja0 xs
      have hml := jiq 1 xs
      have i2 : isT (PV.agg [PV.sl xs.length (encN (mkNds 1 xs))]) = true := by
        have := jcx (t := mkNds 1 xs) ⟨by rw [hml]; omega, jlo _ _ hsh.2⟩
        rwa [hml] at this
      have a2 : asT (PV.agg [PV.sl xs.length (encN (mkNds 1 xs))]) = mkNds 1 xs := by
        have := jby (mkNds 1 xs)
        rwa [hml] at this
      have hh1 : holds (xs = xs) = true := jag rfl
      have hh2 : holds (mkNds 1 xs = mkNds 1 (mkNds 1 xs)) = true := jag (jgn 1 xs).symm
      have hge := jhw xs 1
      have hd1 : decide (mkNdE 1 xs < 0) = false := dF (by omega)
      have hd2 : decide (xs.length ≤ 5000) = true := dT (by omega)
      by_cases hz : xs = []
      · subst hz
        simp only [i0, a0, e0, e1, hh0, hT, hm, List.length_nil, show encN [] = [] from rfl, jbs]
        rfl
      · have hz2 : Nat.beq xs.length 0 = false := Bool.eq_false_iff.2 fun e => hz (List.length_eq_zero_iff.1 (nqB e))
        rw [i1, a1, i3, a3, i2, a2, jlf, hml, hh1, hh2, hm, hd1, hd2, hz2, bne_self_eq_false]
        rfl
    · have hF : holds (isTr s) = false := @decide_eq_false _ (Classical.propDecidable _) hI
      rw [hF, i0, a0]
      simp only [Bool.and_false, Bool.false_and, jbs, e0, e1, hh0, hT, hm]
      rfl
  · rw [dT (show (s.size : Int) > 1048576 by omega)]
    rfl
theorem jrr : jaf Tryz.prog rdb1 := ⟨jty, ok_un, jrG, jrt, jrV, trivial⟩
theorem FnExactUnpackTree_walk (v : Value) (s : ByteArray) (w : World) (hv : PRep w (jbX w) v (.str s)) (_ : s.size ≤ 2 ^ 63 - 1) (hgl : Gl w (jbX w)) :
    Calls Tryz.prog 3 #[v] w fun e w' => e = .returned (.bool true) ∧ Below w.heap.size w w' := by
  cases hv
  have hc : jaE Tryz.prog 3 ([.str s].map fun p => .cv (.pv p)) (.cv (.pv (.bool true))) [] :=
    jjN mix (jhk (l := rdb1) jrr) (O := OL jop) (LO := LO0) ⟨Tryz.func3, by kernel_rfl, by kernel_rfl⟩ (by kernel_rfl) rfl (jar (by kernel_rfl)) (jpz s)
  exact hc.lawTop (w := w) (vals := [.string s]) (PReps.cons (.str s) (PReps.nil _ _)) hgl
end
section
end
end Go.Proofs.YtobhacnimkccmaaGreatDoor
