import Derived.Test.YtnjecdcbaeeeoaaGreatDoorXXl
import Derived.Test.YtnjecdcbaeeeoaaGreatDoorXXk
namespace Go.Proofs.YtnjecdcbaeeeoaaGreatDoor
noncomputable section
set_option linter.unusedVariables false
set_option maxRecDepth 100000
set_option linter.unusedSimpArgs false
section
def zzan0 (s : ByteArray) (s2 : ByteArray) (a : Int) (b : Bool) (m : Int) (lf : Bool) (last : ByteArray) (i : Int) := (tkR (rst s2 (Int.toNat (posR s2 (tkR (rst s2 (Int.toNat (posR s2 (tkR (rst s2 (Int.toNat a)) 1)))) 1)))) (Int.toNat (oneV (rst s2 (Int.toNat (posR s2 (tkR (rst s2 (Int.toNat a)) 1)))))))
def zzan1 (s : ByteArray) (s2 : ByteArray) (a : Int) (b : Bool) (m : Int) (lf : Bool) (last : ByteArray) (i : Int) := (rst s2 (Int.toNat (posR s2 (tkR (rst s2 (Int.toNat a)) 1))))
def zzan2 (s : ByteArray) (s2 : ByteArray) (a : Int) (b : Bool) (m : Int) (lf : Bool) (last : ByteArray) (i : Int) := (ByteArray.extract last 0 (Int.toNat (oneV (rst s2 (Int.toNat a)))) ++ tkS (rst s2 (Int.toNat (posR s2 (tkR (zzan1 s s2 a b m lf last i) 1)))) (Int.toNat (oneV (zzan1 s s2 a b m lf last i))))
theorem jhf (s : ByteArray) (s2 : ByteArray) (a : Int) (b : Bool) (m : Int) (lf : Bool) (last : ByteArray) (i : Int) : r_sg0 brC s s2 a b m lf last i =
 brC (decide (i < m))
 (brC (decide (i ≤ 6))
 (brC (decide (0 ≤ a) && decide (a ≤ (↑(ByteArray.size s2) : Int)) && decide (ByteArray.size s2 ≤ 2000000))
 (brC (decide (0 ≤ posR s2 (tkR (rst s2 (Int.toNat a)) 1)) && decide (posR s2 (tkR (rst s2 (Int.toNat a)) 1) ≤ (↑(ByteArray.size s2) : Int)) && decide (ByteArray.size s2 ≤ 2000000))
 (brC (decide (oneV (rst s2 (Int.toNat a)) > (↑(ByteArray.size last) : Int)))
 (some (.inr (.ret, [(.pv (.str s), none), (.ptr 8192 0, some (.box [.pv (.bool false), .pv .nils, .pv .nils, .pv .nils])), (.pv (.bool false), none), (.ptr 16384 0, some (.box [.pv (.str s2), .pv (.int .i64 (posR s2 (tkR (zzan1 s s2 a b m lf last i) 1))), .pv (.bool (tkB (zzan1 s s2 a b m lf last i) (tkB (rst s2 (Int.toNat a)) b 1) 1))])), (.pv (.int .i64 m), none), (.ptr 28672 0, some (.box [.pv (.bool lf), .pv .nils, .pv .nils, .pv .nils]))])))
 (brC (decide (0 ≤ 0) && decide (0 ≤ oneV (rst s2 (Int.toNat a))) && decide (oneV (rst s2 (Int.toNat a)) ≤ (↑(ByteArray.size last) : Int)) && true && true)
 (brC (decide (0 ≤ oneV (zzan1 s s2 a b m lf last i)) && decide (0 ≤ posR s2 (tkR (zzan1 s s2 a b m lf last i) 1)) && decide (posR s2 (tkR (zzan1 s s2 a b m lf last i) 1) ≤ (↑(ByteArray.size s2) : Int)) && decide (ByteArray.size s2 ≤ 2000000))
 (brC (decide (ByteArray.size (ByteArray.extract last 0 (Int.toNat (oneV (rst s2 (Int.toNat a))))) + ByteArray.size (tkS (rst s2 (Int.toNat (posR s2 (tkR (zzan1 s s2 a b m lf last i) 1)))) (Int.toNat (oneV (zzan1 s s2 a b m lf last i)))) ≤ 9223372036854775807) && true)
 (brC (lf)
 (brC (decide (0 ≤ posR s2 (zzan0 s s2 a b m lf last i)) && decide (posR s2 (zzan0 s s2 a b m lf last i) ≤ (↑(ByteArray.size s2) : Int)) && decide (ByteArray.size s2 ≤ 2000000))
 (brC (decide (0 ≤ oneV (rst s2 (Int.toNat (posR s2 (zzan0 s s2 a b m lf last i))))) && decide (0 ≤ posR s2 (tkR (rst s2 (Int.toNat (posR s2 (zzan0 s s2 a b m lf last i)))) 1)) && decide (posR s2 (tkR (rst s2 (Int.toNat (posR s2 (zzan0 s s2 a b m lf last i)))) 1) ≤ (↑(ByteArray.size s2) : Int)) && decide (ByteArray.size s2 ≤ 2000000))
 (some (.inl [(.pv (.str s), none), (.ptr 8192 0, some (.box [.pv (.bool false), .pv .nils, .pv .nils, .pv .nils])), (.ptr 16384 0, some (.box [.pv (.str s2), .pv (.int .i64 (posR s2 (tkR (rst s2 (Int.toNat (posR s2 (tkR (rst s2 (Int.toNat (posR s2 (zzan0 s s2 a b m lf last i)))) 1)))) (Int.toNat (oneV (rst s2 (Int.toNat (posR s2 (zzan0 s s2 a b m lf last i))))))))), .pv (.bool (tkB (rst s2 (Int.toNat (posR s2 (tkR (rst s2 (Int.toNat (posR s2 (zzan0 s s2 a b m lf last i)))) 1)))) (tkB (rst s2 (Int.toNat (posR s2 (zzan0 s s2 a b m lf last i)))) (tkB (rst s2 (Int.toNat (posR s2 (tkR (zzan1 s s2 a b m lf last i) 1)))) (tkB (zzan1 s s2 a b m lf last i) (tkB (rst s2 (Int.toNat a)) b 1) 1) (Int.toNat (oneV (zzan1 s s2 a b m lf last i)))) 1) (Int.toNat (oneV (rst s2 (Int.toNat (posR s2 (zzan0 s s2 a b m lf last i))))))))])), (.pv (.int .i64 m), none), (.ptr 28672 0, some (.box [.pv (.bool lf), .lst 1 9 1 [PV.str (zzan2 s s2 a b m lf last i)] true, .lst 1 9 1 [PV.str (tkS (rst s2 (Int.toNat (posR s2 (tkR (rst s2 (Int.toNat (posR s2 (zzan0 s s2 a b m lf last i)))) 1)))) (Int.toNat (oneV (rst s2 (Int.toNat (posR s2 (zzan0 s s2 a b m lf last i)))))))] true, .pv .nils])), (.pv (.str (zzan2 s s2 a b m lf last i)), none), (.pv (.int .i64 (IntKind.wrap .i64 (i + 1))), none)]))
 none)
 none)
 (some (.inl [(.pv (.str s), none), (.ptr 8192 0, some (.box [.pv (.bool false), .pv .nils, .pv .nils, .pv .nils])), (.ptr 16384 0, some (.box [.pv (.str s2), .pv (.int .i64 (posR s2 (zzan0 s s2 a b m lf last i))), .pv (.bool (tkB (rst s2 (Int.toNat (posR s2 (tkR (zzan1 s s2 a b m lf last i) 1)))) (tkB (zzan1 s s2 a b m lf last i) (tkB (rst s2 (Int.toNat a)) b 1) 1) (Int.toNat (oneV (zzan1 s s2 a b m lf last i)))))])), (.pv (.int .i64 m), none), (.ptr 28672 0, some (.box [.pv (.bool lf), .lst 1 9 1 [PV.str (zzan2 s s2 a b m lf last i)] true, .pv .nils, .pv .nils])), (.pv (.str (zzan2 s s2 a b m lf last i)), none), (.pv (.int .i64 (IntKind.wrap .i64 (i + 1))), none)])))
 none)
 none)
 none))
 none)
 none)
 (some (.inr (.exit 0, [(.pv (.str s), none), (.ptr 8192 0, some (.box [.pv (.bool false), .pv .nils, .pv .nils, .pv .nils])), (.bad, none), (.ptr 16384 0, some (.box [.pv (.str s2), .pv (.int .i64 a), .pv (.bool b)])), (.pv (.int .i64 m), none), (.ptr 28672 0, some (.box [.pv (.bool lf), .pv .nils, .pv .nils, .pv .nils]))]))))
 (some (.inr (.exit 0, [(.pv (.str s), none), (.ptr 8192 0, some (.box [.pv (.bool false), .pv .nils, .pv .nils, .pv .nils])), (.bad, none), (.ptr 16384 0, some (.box [.pv (.str s2), .pv (.int .i64 a), .pv (.bool b)])), (.pv (.int .i64 m), none), (.ptr 28672 0, some (.box [.pv (.bool lf), .pv .nils, .pv .nils, .pv .nils]))]))) := by kernel_rfl
theorem jqi (s : ByteArray) (s2 : ByteArray) (a : Int) (b : Bool) (m : Int) (ks : List ByteArray) (i : Int) : r_sk2 brC s s2 a b m ks i =
 brC (decide (i ≤ m))
 (brC (decide (i ≤ 6))
 (brC (decide (0 ≤ a) && decide (a ≤ (↑(ByteArray.size s2) : Int)) && decide (ByteArray.size s2 ≤ 2000000))
 (some (.inl [(.pv (.str s), none), (.ptr 8192 0, some (.box [.pv (.bool false), .pv .nils, .pv .nils, .pv .nils])), (.ptr 16384 0, some (.box [.pv (.str s2), .pv (.int .i64 (posR s2 (tkR (rst s2 (Int.toNat a)) 1))), .pv (.bool (tkB (rst s2 (Int.toNat a)) b 1))])), (.pv (.int .i64 m), none), (.ptr 28672 0, some (.box [.pv (.bool false), .lst 1 9 (List.length ks) (List.map PV.str ks) true, .pv .nils, .lst 1 2 1 [PV.int .i64 (oneV (rst s2 (Int.toNat a)))] true])), (.pv (.int .i64 (IntKind.wrap .i64 (i + 1))), none)]))
 none)
 (some (.inr (.exit 2, [(.pv (.str s), none), (.ptr 8192 0, some (.box [.pv (.bool false), .pv .nils, .pv .nils, .pv .nils])), (.ptr 16384 0, some (.box [.pv (.str s2), .pv (.int .i64 a), .pv (.bool b)])), (.ptr 28672 0, some (.box [.pv (.bool false), .lst 1 9 (List.length ks) (List.map PV.str ks) true, .pv .nils, .pv .nils]))]))))
 (some (.inr (.exit 2, [(.pv (.str s), none), (.ptr 8192 0, some (.box [.pv (.bool false), .pv .nils, .pv .nils, .pv .nils])), (.ptr 16384 0, some (.box [.pv (.str s2), .pv (.int .i64 a), .pv (.bool b)])), (.ptr 28672 0, some (.box [.pv (.bool false), .lst 1 9 (List.length ks) (List.map PV.str ks) true, .pv .nils, .pv .nils]))]))) := by kernel_rfl
theorem jlw (s : ByteArray) (r : ByteArray) (b : Bool) (cs : List Int) (m : Int) (i : Int) : r_gk1 brC s r b cs m i =
 brC (decide (i < m))
 (brC (decide (ByteArray.size r ≤ 2000000))
 (brC (Nat.beq (List.length [PV.int .i64 (oneV r)]) (1 * 1) && (decide (List.length cs + 1 ≤ 140737488351232) && decide ((List.length cs + 1) * 8 ≤ 140737488355328)))
 (some (.inl [(.pv (.str s), none), (.ptr 8192 0, some (.box [.pv (.bool false), .pv .nils, .pv .nils, .pv .nils])), (.ptr 16384 0, some (.box [.pv (.str (tkR r 1)), .pv (.bool (tkB r b 1))])), (.ptr 20480 0, some (.box [.pv (.bool false), .pv .nils, .pv .nils, .lst 1 2 (List.length cs + 1) (List.map (PV.int .i64) cs ++ [PV.int .i64 (oneV r)]) true])), (.pv (.int .i64 m), none), (.pv (.int .i64 (IntKind.wrap .i64 (i + 1))), none)]))
 none)
 none)
 (some (.inr (.exit 2, [(.pv (.str s), none), (.ptr 8192 0, some (.box [.pv (.bool false), .pv .nils, .pv .nils, .pv .nils])), (.ptr 16384 0, some (.box [.pv (.str r), .pv (.bool b)])), (.ptr 20480 0, some (.box [.pv (.bool false), .pv .nils, .pv .nils, .lst 1 2 (List.length cs) (List.map (PV.int .i64) cs) true]))]))) := by kernel_rfl
def zzap0 (s : ByteArray) (r : ByteArray) (b : Bool) (ks : List ByteArray) (last : ByteArray) (n : Int) := (bif bif false then decide ((↑(ByteArray.size last) : Int) > oneV r) else decide ((↑(ByteArray.size last) : Int) < oneV r) then (↑(ByteArray.size last) : Int) else oneV r)
theorem jhG (s : ByteArray) (r : ByteArray) (b : Bool) (ks : List ByteArray) (last : ByteArray) (n : Int) : r_gpN brC s r b ks last n =
 brC (decide (n > 0))
 (brC (!b)
 (brC (decide (ByteArray.size r ≤ 2000000))
 (brC (decide (ByteArray.size (tkR r 1) ≤ 2000000))
 (brC (decide (0 ≤ 0) && decide (0 ≤ bif bif false then decide ((↑(ByteArray.size last) : Int) > oneV r) else decide ((↑(ByteArray.size last) : Int) < oneV r) then (↑(ByteArray.size last) : Int) else oneV r) && decide ((zzap0 s r b ks last n) ≤ (↑(ByteArray.size last) : Int)) && true && true)
 (brC (decide (0 ≤ oneV (tkR r 1)) && decide (ByteArray.size (tkR (tkR r 1) 1) ≤ 2000000))
 (brC (decide (ByteArray.size (ByteArray.extract last 0 (Int.toNat (zzap0 s r b ks last n))) + ByteArray.size (tkS (tkR (tkR r 1) 1) (Int.toNat (oneV (tkR r 1)))) ≤ 9223372036854775807) && true)
 (brC (Nat.beq (List.length [PV.str (ByteArray.extract last 0 (Int.toNat (zzap0 s r b ks last n)) ++ tkS (tkR (tkR r 1) 1) (Int.toNat (oneV (tkR r 1))))]) (1 * 1) && (decide (List.length ks + 1 ≤ 140737488351232) && decide ((List.length ks + 1) * 16 ≤ 140737488355328)))
 (some (.inl [(.pv (.str s), none), (.ptr 8192 0, some (.box [.pv (.bool false), .pv .nils, .pv .nils, .pv .nils])), (.ptr 16384 0, some (.box [.pv (.str (tkR (tkR (tkR r 1) 1) (Int.toNat (oneV (tkR r 1))))), .pv (.bool (tkB (tkR (tkR r 1) 1) (tkB (tkR r 1) (tkB r b 1) 1) (Int.toNat (oneV (tkR r 1)))))])), (.ptr 20480 0, some (.box [.pv (.bool false), .lst 1 9 (List.length ks + 1) (List.map PV.str ks ++ [PV.str (ByteArray.extract last 0 (Int.toNat (zzap0 s r b ks last n)) ++ tkS (tkR (tkR r 1) 1) (Int.toNat (oneV (tkR r 1))))]) true, .pv .nils, .pv .nils])), (.pv (.str (ByteArray.extract last 0 (Int.toNat (zzap0 s r b ks last n)) ++ tkS (tkR (tkR r 1) 1) (Int.toNat (oneV (tkR r 1))))), none), (.pv (.int .i64 (IntKind.wrap .i64 (n - 1))), none)]))
 none)
 none)
 none)
 none)
 none)
 none)
 (some (.inr (.exit 0, [(.pv (.str s), none), (.ptr 8192 0, some (.box [.pv (.bool false), .pv .nils, .pv .nils, .pv .nils])), (.ptr 16384 0, some (.box [.pv (.str r), .pv (.bool b)])), (.ptr 20480 0, some (.box [.pv (.bool false), .lst 1 9 (List.length ks) (List.map PV.str ks) true, .pv .nils, .pv .nils]))]))))
 (some (.inr (.exit 0, [(.pv (.str s), none), (.ptr 8192 0, some (.box [.pv (.bool false), .pv .nils, .pv .nils, .pv .nils])), (.ptr 16384 0, some (.box [.pv (.str r), .pv (.bool b)])), (.ptr 20480 0, some (.box [.pv (.bool false), .lst 1 9 (List.length ks) (List.map PV.str ks) true, .pv .nils, .pv .nils]))]))) := by kernel_rfl
theorem jqW (s : ByteArray) (s2 : ByteArray) (a : Int) (b : Bool) (m : Int) (ks : List ByteArray) (vs : List ByteArray) (i : Int) : r_skL brC s s2 a b m ks vs i =
 brC (decide (i ≤ m))
 (some (.inr (.exit 2, [(.pv (.str s), none), (.ptr 8192 0, some (.box [.pv (.bool false), .pv .nils, .pv .nils, .pv .nils])), (.ptr 16384 0, some (.box [.pv (.str s2), .pv (.int .i64 a), .pv (.bool b)])), (.ptr 28672 0, some (.box [.pv (.bool true), .lst 1 9 (List.length ks) (List.map PV.str ks) true, .lst 1 9 (List.length vs) (List.map PV.str vs) true, .pv .nils]))])))
 (some (.inr (.exit 2, [(.pv (.str s), none), (.ptr 8192 0, some (.box [.pv (.bool false), .pv .nils, .pv .nils, .pv .nils])), (.ptr 16384 0, some (.box [.pv (.str s2), .pv (.int .i64 a), .pv (.bool b)])), (.ptr 28672 0, some (.box [.pv (.bool true), .lst 1 9 (List.length ks) (List.map PV.str ks) true, .lst 1 9 (List.length vs) (List.map PV.str vs) true, .pv .nils]))]))) := by kernel_rfl
def zzaq0 (s : ByteArray) := (Prod.snd (gsA false (oneV (rst s (Int.toNat (posR s (tkR (rst s 0) 1))))) s (posR s (tkR (rst s (Int.toNat (posR s (tkR (rst s 0) 1)))) 1)) (tkB (rst s (Int.toNat (posR s (tkR (rst s 0) 1)))) (tkB (rst s 0) false 1) 1)))
def zzaq1 (s : ByteArray) := (Prod.snd (Prod.snd (Prod.snd (gsA true (oneV (rst s (Int.toNat (posR s (tkR (rst s 0) 1))))) s (posR s (tkR (rst s (Int.toNat (posR s (tkR (rst s 0) 1)))) 1)) (tkB (rst s (Int.toNat (posR s (tkR (rst s 0) 1)))) (tkB (rst s 0) false 1) 1)))))
def zzaq2 (s : ByteArray) := (Prod.snd (kdA (oneV (rst s (Int.toNat (posR s (tkR (rst s 0) 1))))) s (posR s (tkR (rst s (Int.toNat (posR s (tkR (rst s 0) 1)))) 1)) (tkB (rst s (Int.toNat (posR s (tkR (rst s 0) 1)))) (tkB (rst s 0) false 1) 1)))
def zzaq3 (s : ByteArray) := (PV.agg [PV.bool false, PV.sl (List.length (Prod.fst (Prod.snd (Prod.snd (zzaq0 s))))) (List.map PV.str (Prod.fst (Prod.snd (Prod.snd (zzaq0 s))))), PV.sl 0 [], PV.sl (List.length (Prod.snd (Prod.snd (kdA (oneV (rst s (Int.toNat (posR s (tkR (rst s 0) 1))))) s (posR s (Prod.fst (zzaq0 s))) (Prod.fst (Prod.snd (zzaq0 s))))))) (List.map (PV.int .i64) (Prod.snd (Prod.snd (kdA (oneV (rst s (Int.toNat (posR s (tkR (rst s 0) 1))))) s (posR s (Prod.fst (zzaq0 s))) (Prod.fst (Prod.snd (zzaq0 s)))))))])
theorem jma (s : ByteArray) : q_sgp brC s =
 brC (decide (0 ≤ 0) && decide (0 ≤ (↑(ByteArray.size s) : Int)) && decide (ByteArray.size s ≤ 2000000))
 (brC (decide (0 ≤ posR s (tkR (rst s 0) 1)) && decide (posR s (tkR (rst s 0) 1) ≤ (↑(ByteArray.size s) : Int)) && decide (ByteArray.size s ≤ 2000000))
 (brC (Nat.beq 8192 8192 && Nat.beq 16384 16384 && Nat.beq 28672 28672 && 0 == 0 && decide (oneV (rst s (Int.toNat (posR s (tkR (rst s 0) 1)))) ≤ 0))
 (brC (Nat.beq 8192 8192 && Nat.beq 16384 16384 && Nat.beq 28672 28672 && 0 == 0 && oneV (rst s 0) == 1)
 (brC (tkB (rst s (Int.toNat (posR s (tkR (rst s 0) 1)))) (tkB (rst s 0) false 1) 1)
 (some ((.tup [.agg [.pv (.bool false), .pv .nils, .pv .nils, .pv .nils], .cv (.pv (.bool false))], [])))
 (brC (isPg (PV.agg [PV.bool (oneV (rst s 0) == 1), PV.sl 0 [], PV.sl 0 [], PV.sl 0 []]) && holds (smK (PgT.keys (asPg (PV.agg [PV.bool (oneV (rst s 0) == 1), PV.sl 0 [], PV.sl 0 [], PV.sl 0 []])))))
 (brC (!ByteArray.toList (pageV (asPg (PV.agg [PV.bool (oneV (rst s 0) == 1), PV.sl 0 [], PV.sl 0 [], PV.sl 0 []]))) == ByteArray.toList s)
 (some ((.tup [.agg [.pv (.bool false), .pv .nils, .pv .nils, .pv .nils], .cv (.pv (.bool false))], [])))
 (brC (ByteArray.toList s == [])
 (some ((.tup [.agg [.pv (.bool false), .pv .nils, .pv .nils, .pv .nils], .cv (.pv (.bool false))], [])))
 (some ((.tup [.agg [.pv (.bool (oneV (rst s 0) == 1)), .pv .nils, .pv .nils, .pv .nils], .cv (.pv (.bool true))], [])))))
 none))
 (brC (Nat.beq 8192 8192 && Nat.beq 16384 16384 && Nat.beq 28672 28672 && 0 == 0 && !oneV (rst s 0) == 1 && decide (0 ≤ oneV (rst s (Int.toNat (posR s (tkR (rst s 0) 1))))) && decide (oneV (rst s (Int.toNat (posR s (tkR (rst s 0) 1)))) ≤ 255) && decide (0 ≤ posR s (tkR (rst s (Int.toNat (posR s (tkR (rst s 0) 1)))) 1)) && decide (posR s (tkR (rst s (Int.toNat (posR s (tkR (rst s 0) 1)))) 1) ≤ (↑(ByteArray.size s) : Int)) && holds (ByteArray.size s ≤ 2000000))
 (brC (Prod.fst (zzaq2 s))
 (some ((.tup [.agg [.pv (.bool false), .pv .nils, .pv .nils, .pv .nils], .cv (.pv (.bool false))], [])))
 (brC (isPg (PV.agg [PV.bool false, PV.sl 0 [], PV.sl 0 [], PV.sl (List.length (Prod.snd (zzaq2 s))) (List.map (PV.int .i64) (Prod.snd (zzaq2 s)))]) && holds (smK (PgT.keys (asPg (PV.agg [PV.bool false, PV.sl 0 [], PV.sl 0 [], PV.sl (List.length (Prod.snd (zzaq2 s))) (List.map (PV.int .i64) (Prod.snd (zzaq2 s)))])))))
 (brC (!ByteArray.toList (pageV (asPg (PV.agg [PV.bool false, PV.sl 0 [], PV.sl 0 [], PV.sl (List.length (Prod.snd (zzaq2 s))) (List.map (PV.int .i64) (Prod.snd (zzaq2 s)))]))) == ByteArray.toList s)
 (some ((.tup [.agg [.pv (.bool false), .pv .nils, .pv .nils, .pv .nils], .cv (.pv (.bool false))], [])))
 (brC (ByteArray.toList s == [])
 (some ((.tup [.agg [.pv (.bool false), .pv .nils, .pv .nils, .pv .nils], .cv (.pv (.bool false))], [])))
 (some ((.tup [.agg [.pv (.bool false), .pv .nils, .pv .nils, .lst 1 2 (List.length (Prod.snd (zzaq2 s))) (List.map (PV.int .i64) (Prod.snd (zzaq2 s))) true], .cv (.pv (.bool true))], [])))))
 none))
 none))
 (brC (Nat.beq 8192 8192 && Nat.beq 16384 16384 && Nat.beq 28672 28672 && 0 == 0 && decide (0 ≤ oneV (rst s (Int.toNat (posR s (tkR (rst s 0) 1))))) && decide (oneV (rst s (Int.toNat (posR s (tkR (rst s 0) 1)))) ≤ 255) && decide (0 ≤ posR s (tkR (rst s (Int.toNat (posR s (tkR (rst s 0) 1)))) 1)) && decide (posR s (tkR (rst s (Int.toNat (posR s (tkR (rst s 0) 1)))) 1) ≤ (↑(ByteArray.size s) : Int)) && holds (ByteArray.size s ≤ 2000000) && Nat.beq 0 0 && oneV (rst s 0) == 1 && Prod.fst (gsA true (oneV (rst s (Int.toNat (posR s (tkR (rst s 0) 1))))) s (posR s (tkR (rst s (Int.toNat (posR s (tkR (rst s 0) 1)))) 1)) (tkB (rst s (Int.toNat (posR s (tkR (rst s 0) 1)))) (tkB (rst s 0) false 1) 1)))
 (brC (Nat.beq 8192 8192 && Nat.beq 16384 16384 && Nat.beq 28672 28672 && 0 == 0 && Nat.beq 9 9 && Nat.beq 9 9 && isL (PV.sl (List.length (Prod.fst (zzaq1 s))) (List.map PV.str (Prod.fst (zzaq1 s)))) && isL (PV.sl (List.length (Prod.snd (zzaq1 s))) (List.map PV.str (Prod.snd (zzaq1 s)))))
 (brC (Prod.fst (Prod.snd (Prod.snd (gsA true (oneV (rst s (Int.toNat (posR s (tkR (rst s 0) 1))))) s (posR s (tkR (rst s (Int.toNat (posR s (tkR (rst s 0) 1)))) 1)) (tkB (rst s (Int.toNat (posR s (tkR (rst s 0) 1)))) (tkB (rst s 0) false 1) 1)))))
 (some ((.tup [.agg [.pv (.bool false), .pv .nils, .pv .nils, .pv .nils], .cv (.pv (.bool false))], [])))
 (brC (isPg (PV.agg [PV.bool true, PV.sl (List.length (Prod.fst (zzaq1 s))) (List.map PV.str (Prod.fst (zzaq1 s))), PV.sl (List.length (Prod.snd (zzaq1 s))) (List.map PV.str (Prod.snd (zzaq1 s))), PV.sl 0 []]) && holds (smK (PgT.keys (asPg (PV.agg [PV.bool true, PV.sl (List.length (Prod.fst (zzaq1 s))) (List.map PV.str (Prod.fst (zzaq1 s))), PV.sl (List.length (Prod.snd (zzaq1 s))) (List.map PV.str (Prod.snd (zzaq1 s))), PV.sl 0 []])))))
 (brC (!ByteArray.toList (pageV (asPg (PV.agg [PV.bool true, PV.sl (List.length (Prod.fst (zzaq1 s))) (List.map PV.str (Prod.fst (zzaq1 s))), PV.sl (List.length (Prod.snd (zzaq1 s))) (List.map PV.str (Prod.snd (zzaq1 s))), PV.sl 0 []]))) == ByteArray.toList s)
 (some ((.tup [.agg [.pv (.bool false), .pv .nils, .pv .nils, .pv .nils], .cv (.pv (.bool false))], [])))
 (brC (ByteArray.toList s == [])
 (some ((.tup [.agg [.pv (.bool false), .pv .nils, .pv .nils, .pv .nils], .cv (.pv (.bool false))], [])))
 (some ((.tup [.agg [.pv (.bool true), .lst 1 9 (List.length (Prod.fst (zzaq1 s))) (List.map PV.str (Prod.fst (zzaq1 s))) true, .lst 1 9 (List.length (Prod.snd (zzaq1 s))) (List.map PV.str (Prod.snd (zzaq1 s))) true, .pv .nils], .cv (.pv (.bool true))], [])))))
 none))
 none)
 (brC (Nat.beq 8192 8192 && Nat.beq 16384 16384 && Nat.beq 28672 28672 && 0 == 0 && decide (0 ≤ oneV (rst s (Int.toNat (posR s (tkR (rst s 0) 1))))) && decide (oneV (rst s (Int.toNat (posR s (tkR (rst s 0) 1)))) ≤ 255) && decide (0 ≤ posR s (tkR (rst s (Int.toNat (posR s (tkR (rst s 0) 1)))) 1)) && decide (posR s (tkR (rst s (Int.toNat (posR s (tkR (rst s 0) 1)))) 1) ≤ (↑(ByteArray.size s) : Int)) && holds (ByteArray.size s ≤ 2000000) && Nat.beq 0 0 && !oneV (rst s 0) == 1 && Prod.fst (gsA false (oneV (rst s (Int.toNat (posR s (tkR (rst s 0) 1))))) s (posR s (tkR (rst s (Int.toNat (posR s (tkR (rst s 0) 1)))) 1)) (tkB (rst s (Int.toNat (posR s (tkR (rst s 0) 1)))) (tkB (rst s 0) false 1) 1)))
 (brC (Nat.beq 8192 8192 && Nat.beq 16384 16384 && Nat.beq 28672 28672 && 0 == 0 && Nat.beq 9 9 && isL (PV.sl (List.length (Prod.fst (Prod.snd (Prod.snd (zzaq0 s))))) (List.map PV.str (Prod.fst (Prod.snd (Prod.snd (zzaq0 s)))))) && decide (0 ≤ oneV (rst s (Int.toNat (posR s (tkR (rst s 0) 1))))) && decide (oneV (rst s (Int.toNat (posR s (tkR (rst s 0) 1)))) ≤ 255) && decide (0 ≤ posR s (Prod.fst (zzaq0 s))) && decide (posR s (Prod.fst (zzaq0 s)) ≤ (↑(ByteArray.size s) : Int)) && holds (ByteArray.size s ≤ 2000000))
 (brC (Prod.fst (Prod.snd (kdA (oneV (rst s (Int.toNat (posR s (tkR (rst s 0) 1))))) s (posR s (Prod.fst (zzaq0 s))) (Prod.fst (Prod.snd (zzaq0 s))))))
 (some ((.tup [.agg [.pv (.bool false), .pv .nils, .pv .nils, .pv .nils], .cv (.pv (.bool false))], [])))
 (brC (isPg (zzaq3 s) && holds (smK (PgT.keys (asPg (zzaq3 s)))))
 (brC (!ByteArray.toList (pageV (asPg (zzaq3 s))) == ByteArray.toList s)
 (some ((.tup [.agg [.pv (.bool false), .pv .nils, .pv .nils, .pv .nils], .cv (.pv (.bool false))], [])))
 (brC (ByteArray.toList s == [])
 (some ((.tup [.agg [.pv (.bool false), .pv .nils, .pv .nils, .pv .nils], .cv (.pv (.bool false))], [])))
 (some ((.tup [.agg [.pv (.bool false), .lst 1 9 (List.length (Prod.fst (Prod.snd (Prod.snd (zzaq0 s))))) (List.map PV.str (Prod.fst (Prod.snd (Prod.snd (zzaq0 s))))) true, .pv .nils, .lst 1 2 (List.length (Prod.snd (Prod.snd (kdA (oneV (rst s (Int.toNat (posR s (tkR (rst s 0) 1))))) s (posR s (Prod.fst (zzaq0 s))) (Prod.fst (Prod.snd (zzaq0 s))))))) (List.map (PV.int .i64) (Prod.snd (Prod.snd (kdA (oneV (rst s (Int.toNat (posR s (tkR (rst s 0) 1))))) s (posR s (Prod.fst (zzaq0 s))) (Prod.fst (Prod.snd (zzaq0 s))))))) true], .cv (.pv (.bool true))], [])))))
 none))
 none)
 (brC (Nat.beq 8192 8192 && Nat.beq 16384 16384 && Nat.beq 28672 28672 && 0 == 0 && decide (0 ≤ oneV (rst s (Int.toNat (posR s (tkR (rst s 0) 1))))) && decide (oneV (rst s (Int.toNat (posR s (tkR (rst s 0) 1)))) ≤ 255) && decide (0 ≤ posR s (tkR (rst s (Int.toNat (posR s (tkR (rst s 0) 1)))) 1)) && decide (posR s (tkR (rst s (Int.toNat (posR s (tkR (rst s 0) 1)))) 1) ≤ (↑(ByteArray.size s) : Int)) && holds (ByteArray.size s ≤ 2000000) && Nat.beq 0 0)
 (some ((.tup [.agg [.pv (.bool false), .pv .nils, .pv .nils, .pv .nils], .cv (.pv (.bool false))], [])))
 none))))
 none)
 none := by kernel_rfl
def zzar0 (s : ByteArray) (s2 : ByteArray) (a : Int) (b : Bool) (m : Int) (ks : List ByteArray) (last : ByteArray) (i : Int) := (rst s2 (Int.toNat (posR s2 (tkR (rst s2 (Int.toNat a)) 1))))
theorem jkW (s : ByteArray) (s2 : ByteArray) (a : Int) (b : Bool) (m : Int) (ks : List ByteArray) (last : ByteArray) (i : Int) : r_sgN brC s s2 a b m ks last i =
 brC (decide (i < m))
 (brC (decide (i ≤ 6))
 (brC (decide (0 ≤ a) && decide (a ≤ (↑(ByteArray.size s2) : Int)) && decide (ByteArray.size s2 ≤ 2000000))
 (brC (decide (0 ≤ posR s2 (tkR (rst s2 (Int.toNat a)) 1)) && decide (posR s2 (tkR (rst s2 (Int.toNat a)) 1) ≤ (↑(ByteArray.size s2) : Int)) && decide (ByteArray.size s2 ≤ 2000000))
 (brC (decide (oneV (rst s2 (Int.toNat a)) > (↑(ByteArray.size last) : Int)))
 (some (.inr (.ret, [(.pv (.str s), none), (.ptr 8192 0, some (.box [.pv (.bool false), .pv .nils, .pv .nils, .pv .nils])), (.pv (.bool false), none), (.ptr 16384 0, some (.box [.pv (.str s2), .pv (.int .i64 (posR s2 (tkR (zzar0 s s2 a b m ks last i) 1))), .pv (.bool (tkB (zzar0 s s2 a b m ks last i) (tkB (rst s2 (Int.toNat a)) b 1) 1))])), (.pv (.int .i64 m), none), (.ptr 28672 0, some (.box [.pv (.bool false), .lst 1 9 (List.length ks) (List.map PV.str ks) true, .pv .nils, .pv .nils]))])))
 (brC (decide (0 ≤ 0) && decide (0 ≤ oneV (rst s2 (Int.toNat a))) && decide (oneV (rst s2 (Int.toNat a)) ≤ (↑(ByteArray.size last) : Int)) && true && true)
 (brC (decide (0 ≤ oneV (zzar0 s s2 a b m ks last i)) && decide (0 ≤ posR s2 (tkR (zzar0 s s2 a b m ks last i) 1)) && decide (posR s2 (tkR (zzar0 s s2 a b m ks last i) 1) ≤ (↑(ByteArray.size s2) : Int)) && decide (ByteArray.size s2 ≤ 2000000))
 (brC (decide (ByteArray.size (ByteArray.extract last 0 (Int.toNat (oneV (rst s2 (Int.toNat a))))) + ByteArray.size (tkS (rst s2 (Int.toNat (posR s2 (tkR (zzar0 s s2 a b m ks last i) 1)))) (Int.toNat (oneV (zzar0 s s2 a b m ks last i)))) ≤ 9223372036854775807) && true)
 (brC (Nat.beq (List.length [PV.str (ByteArray.extract last 0 (Int.toNat (oneV (rst s2 (Int.toNat a)))) ++ tkS (rst s2 (Int.toNat (posR s2 (tkR (zzar0 s s2 a b m ks last i) 1)))) (Int.toNat (oneV (zzar0 s s2 a b m ks last i))))]) (1 * 1) && (decide (List.length ks + 1 ≤ 140737488351232) && decide ((List.length ks + 1) * 16 ≤ 140737488355328)))
 (some (.inl [(.pv (.str s), none), (.ptr 8192 0, some (.box [.pv (.bool false), .pv .nils, .pv .nils, .pv .nils])), (.ptr 16384 0, some (.box [.pv (.str s2), .pv (.int .i64 (posR s2 (tkR (rst s2 (Int.toNat (posR s2 (tkR (zzar0 s s2 a b m ks last i) 1)))) (Int.toNat (oneV (zzar0 s s2 a b m ks last i)))))), .pv (.bool (tkB (rst s2 (Int.toNat (posR s2 (tkR (zzar0 s s2 a b m ks last i) 1)))) (tkB (zzar0 s s2 a b m ks last i) (tkB (rst s2 (Int.toNat a)) b 1) 1) (Int.toNat (oneV (zzar0 s s2 a b m ks last i)))))])), (.pv (.int .i64 m), none), (.ptr 28672 0, some (.box [.pv (.bool false), .lst 1 9 (List.length ks + 1) (List.map PV.str ks ++ [PV.str (ByteArray.extract last 0 (Int.toNat (oneV (rst s2 (Int.toNat a)))) ++ tkS (rst s2 (Int.toNat (posR s2 (tkR (zzar0 s s2 a b m ks last i) 1)))) (Int.toNat (oneV (zzar0 s s2 a b m ks last i))))]) true, .pv .nils, .pv .nils])), (.pv (.str (ByteArray.extract last 0 (Int.toNat (oneV (rst s2 (Int.toNat a)))) ++ tkS (rst s2 (Int.toNat (posR s2 (tkR (zzar0 s s2 a b m ks last i) 1)))) (Int.toNat (oneV (zzar0 s s2 a b m ks last i))))), none), (.pv (.int .i64 (IntKind.wrap .i64 (i + 1))), none)]))
 none)
 none)
 none)
 none))
 none)
 none)
 (some (.inr (.exit 0, [(.pv (.str s), none), (.ptr 8192 0, some (.box [.pv (.bool false), .pv .nils, .pv .nils, .pv .nils])), (.bad, none), (.ptr 16384 0, some (.box [.pv (.str s2), .pv (.int .i64 a), .pv (.bool b)])), (.pv (.int .i64 m), none), (.ptr 28672 0, some (.box [.pv (.bool false), .lst 1 9 (List.length ks) (List.map PV.str ks) true, .pv .nils, .pv .nils]))]))))
 (some (.inr (.exit 0, [(.pv (.str s), none), (.ptr 8192 0, some (.box [.pv (.bool false), .pv .nils, .pv .nils, .pv .nils])), (.bad, none), (.ptr 16384 0, some (.box [.pv (.str s2), .pv (.int .i64 a), .pv (.bool b)])), (.pv (.int .i64 m), none), (.ptr 28672 0, some (.box [.pv (.bool false), .lst 1 9 (List.length ks) (List.map PV.str ks) true, .pv .nils, .pv .nils]))]))) := by kernel_rfl
theorem jqN (s : ByteArray) (r : ByteArray) (b : Bool) (m : Int) (i : Int) : r_gk0 brC s r b m i =
 brC (decide (i < m))
 (brC (decide (ByteArray.size r ≤ 2000000))
 (some (.inl [(.pv (.str s), none), (.ptr 8192 0, some (.box [.pv (.bool false), .pv .nils, .pv .nils, .pv .nils])), (.ptr 16384 0, some (.box [.pv (.str (tkR r 1)), .pv (.bool (tkB r b 1))])), (.ptr 20480 0, some (.box [.pv (.bool false), .pv .nils, .pv .nils, .lst 1 2 1 [PV.int .i64 (oneV r)] true])), (.pv (.int .i64 m), none), (.pv (.int .i64 (IntKind.wrap .i64 (i + 1))), none)]))
 none)
 (some (.inr (.exit 2, [(.pv (.str s), none), (.ptr 8192 0, some (.box [.pv (.bool false), .pv .nils, .pv .nils, .pv .nils])), (.ptr 16384 0, some (.box [.pv (.str r), .pv (.bool b)])), (.ptr 20480 0, some (.box [.pv (.bool false), .pv .nils, .pv .nils, .pv .nils]))]))) := by kernel_rfl
def zzas0 (s : ByteArray) (s2 : ByteArray) (a : Int) (b : Bool) (m : Int) (ks : List ByteArray) (vs : List ByteArray) (last : ByteArray) (i : Int) := (rst s2 (Int.toNat (posR s2 (tkR (rst s2 (Int.toNat (posR s2 (tkR (rst s2 (Int.toNat (posR s2 (tkR (rst s2 (Int.toNat a)) 1)))) 1)))) (Int.toNat (oneV (rst s2 (Int.toNat (posR s2 (tkR (rst s2 (Int.toNat a)) 1))))))))))
def zzas1 (s : ByteArray) (s2 : ByteArray) (a : Int) (b : Bool) (m : Int) (ks : List ByteArray) (vs : List ByteArray) (last : ByteArray) (i : Int) := (rst s2 (Int.toNat (posR s2 (tkR (rst s2 (Int.toNat a)) 1))))
theorem jlh (s : ByteArray) (s2 : ByteArray) (a : Int) (b : Bool) (m : Int) (ks : List ByteArray) (vs : List ByteArray) (last : ByteArray) (i : Int) : r_sgL brC s s2 a b m ks vs last i =
 brC (decide (i < m))
 (brC (decide (i ≤ 6))
 (brC (decide (0 ≤ a) && decide (a ≤ (↑(ByteArray.size s2) : Int)) && decide (ByteArray.size s2 ≤ 2000000))
 (brC (decide (0 ≤ posR s2 (tkR (rst s2 (Int.toNat a)) 1)) && decide (posR s2 (tkR (rst s2 (Int.toNat a)) 1) ≤ (↑(ByteArray.size s2) : Int)) && decide (ByteArray.size s2 ≤ 2000000))
 (brC (decide (oneV (rst s2 (Int.toNat a)) > (↑(ByteArray.size last) : Int)))
 (some (.inr (.ret, [(.pv (.str s), none), (.ptr 8192 0, some (.box [.pv (.bool false), .pv .nils, .pv .nils, .pv .nils])), (.pv (.bool false), none), (.ptr 16384 0, some (.box [.pv (.str s2), .pv (.int .i64 (posR s2 (tkR (zzas1 s s2 a b m ks vs last i) 1))), .pv (.bool (tkB (zzas1 s s2 a b m ks vs last i) (tkB (rst s2 (Int.toNat a)) b 1) 1))])), (.pv (.int .i64 m), none), (.ptr 28672 0, some (.box [.pv (.bool true), .lst 1 9 (List.length ks) (List.map PV.str ks) true, .lst 1 9 (List.length vs) (List.map PV.str vs) true, .pv .nils]))])))
 (brC (decide (0 ≤ 0) && decide (0 ≤ oneV (rst s2 (Int.toNat a))) && decide (oneV (rst s2 (Int.toNat a)) ≤ (↑(ByteArray.size last) : Int)) && true && true)
 (brC (decide (0 ≤ oneV (zzas1 s s2 a b m ks vs last i)) && decide (0 ≤ posR s2 (tkR (zzas1 s s2 a b m ks vs last i) 1)) && decide (posR s2 (tkR (zzas1 s s2 a b m ks vs last i) 1) ≤ (↑(ByteArray.size s2) : Int)) && decide (ByteArray.size s2 ≤ 2000000))
 (brC (decide (ByteArray.size (ByteArray.extract last 0 (Int.toNat (oneV (rst s2 (Int.toNat a))))) + ByteArray.size (tkS (rst s2 (Int.toNat (posR s2 (tkR (zzas1 s s2 a b m ks vs last i) 1)))) (Int.toNat (oneV (zzas1 s s2 a b m ks vs last i)))) ≤ 9223372036854775807) && true)
 (brC (Nat.beq (List.length [PV.str (ByteArray.extract last 0 (Int.toNat (oneV (rst s2 (Int.toNat a)))) ++ tkS (rst s2 (Int.toNat (posR s2 (tkR (zzas1 s s2 a b m ks vs last i) 1)))) (Int.toNat (oneV (zzas1 s s2 a b m ks vs last i))))]) (1 * 1) && (decide (List.length ks + 1 ≤ 140737488351232) && decide ((List.length ks + 1) * 16 ≤ 140737488355328)))
 (brC (decide (0 ≤ posR s2 (tkR (rst s2 (Int.toNat (posR s2 (tkR (zzas1 s s2 a b m ks vs last i) 1)))) (Int.toNat (oneV (zzas1 s s2 a b m ks vs last i))))) && decide (posR s2 (tkR (rst s2 (Int.toNat (posR s2 (tkR (zzas1 s s2 a b m ks vs last i) 1)))) (Int.toNat (oneV (zzas1 s s2 a b m ks vs last i)))) ≤ (↑(ByteArray.size s2) : Int)) && decide (ByteArray.size s2 ≤ 2000000))
 (brC (decide (0 ≤ oneV (zzas0 s s2 a b m ks vs last i)) && decide (0 ≤ posR s2 (tkR (zzas0 s s2 a b m ks vs last i) 1)) && decide (posR s2 (tkR (zzas0 s s2 a b m ks vs last i) 1) ≤ (↑(ByteArray.size s2) : Int)) && decide (ByteArray.size s2 ≤ 2000000))
 (brC (Nat.beq (List.length [PV.str (tkS (rst s2 (Int.toNat (posR s2 (tkR (zzas0 s s2 a b m ks vs last i) 1)))) (Int.toNat (oneV (zzas0 s s2 a b m ks vs last i))))]) (1 * 1) && (decide (List.length vs + 1 ≤ 140737488351232) && decide ((List.length vs + 1) * 16 ≤ 140737488355328)))
 (some (.inl [(.pv (.str s), none), (.ptr 8192 0, some (.box [.pv (.bool false), .pv .nils, .pv .nils, .pv .nils])), (.ptr 16384 0, some (.box [.pv (.str s2), .pv (.int .i64 (posR s2 (tkR (rst s2 (Int.toNat (posR s2 (tkR (zzas0 s s2 a b m ks vs last i) 1)))) (Int.toNat (oneV (zzas0 s s2 a b m ks vs last i)))))), .pv (.bool (tkB (rst s2 (Int.toNat (posR s2 (tkR (zzas0 s s2 a b m ks vs last i) 1)))) (tkB (zzas0 s s2 a b m ks vs last i) (tkB (rst s2 (Int.toNat (posR s2 (tkR (zzas1 s s2 a b m ks vs last i) 1)))) (tkB (zzas1 s s2 a b m ks vs last i) (tkB (rst s2 (Int.toNat a)) b 1) 1) (Int.toNat (oneV (zzas1 s s2 a b m ks vs last i)))) 1) (Int.toNat (oneV (zzas0 s s2 a b m ks vs last i)))))])), (.pv (.int .i64 m), none), (.ptr 28672 0, some (.box [.pv (.bool true), .lst 1 9 (List.length ks + 1) (List.map PV.str ks ++ [PV.str (ByteArray.extract last 0 (Int.toNat (oneV (rst s2 (Int.toNat a)))) ++ tkS (rst s2 (Int.toNat (posR s2 (tkR (zzas1 s s2 a b m ks vs last i) 1)))) (Int.toNat (oneV (zzas1 s s2 a b m ks vs last i))))]) true, .lst 1 9 (List.length vs + 1) (List.map PV.str vs ++ [PV.str (tkS (rst s2 (Int.toNat (posR s2 (tkR (zzas0 s s2 a b m ks vs last i) 1)))) (Int.toNat (oneV (zzas0 s s2 a b m ks vs last i))))]) true, .pv .nils])), (.pv (.str (ByteArray.extract last 0 (Int.toNat (oneV (rst s2 (Int.toNat a)))) ++ tkS (rst s2 (Int.toNat (posR s2 (tkR (zzas1 s s2 a b m ks vs last i) 1)))) (Int.toNat (oneV (zzas1 s s2 a b m ks vs last i))))), none), (.pv (.int .i64 (IntKind.wrap .i64 (i + 1))), none)]))
 none)
 none)
 none)
 none)
 none)
 none)
 none))
 none)
 none)
 (some (.inr (.exit 0, [(.pv (.str s), none), (.ptr 8192 0, some (.box [.pv (.bool false), .pv .nils, .pv .nils, .pv .nils])), (.bad, none), (.ptr 16384 0, some (.box [.pv (.str s2), .pv (.int .i64 a), .pv (.bool b)])), (.pv (.int .i64 m), none), (.ptr 28672 0, some (.box [.pv (.bool true), .lst 1 9 (List.length ks) (List.map PV.str ks) true, .lst 1 9 (List.length vs) (List.map PV.str vs) true, .pv .nils]))]))))
 (some (.inr (.exit 0, [(.pv (.str s), none), (.ptr 8192 0, some (.box [.pv (.bool false), .pv .nils, .pv .nils, .pv .nils])), (.bad, none), (.ptr 16384 0, some (.box [.pv (.str s2), .pv (.int .i64 a), .pv (.bool b)])), (.pv (.int .i64 m), none), (.ptr 28672 0, some (.box [.pv (.bool true), .lst 1 9 (List.length ks) (List.map PV.str ks) true, .lst 1 9 (List.length vs) (List.map PV.str vs) true, .pv .nils]))]))) := by kernel_rfl
theorem jlR (s : ByteArray) (r : ByteArray) (b : Bool) (ks : List ByteArray) (cs : List Int) (m : Int) (i : Int) : r_gk3 brC s r b ks cs m i =
 brC (decide (i < m))
 (brC (decide (ByteArray.size r ≤ 2000000))
 (brC (Nat.beq (List.length [PV.int .i64 (oneV r)]) (1 * 1) && (decide (List.length cs + 1 ≤ 140737488351232) && decide ((List.length cs + 1) * 8 ≤ 140737488355328)))
 (some (.inl [(.pv (.str s), none), (.ptr 8192 0, some (.box [.pv (.bool false), .pv .nils, .pv .nils, .pv .nils])), (.ptr 16384 0, some (.box [.pv (.str (tkR r 1)), .pv (.bool (tkB r b 1))])), (.ptr 20480 0, some (.box [.pv (.bool false), .lst 1 9 (List.length ks) (List.map PV.str ks) true, .pv .nils, .lst 1 2 (List.length cs + 1) (List.map (PV.int .i64) cs ++ [PV.int .i64 (oneV r)]) true])), (.pv (.int .i64 m), none), (.pv (.int .i64 (IntKind.wrap .i64 (i + 1))), none)]))
 none)
 none)
 (some (.inr (.exit 2, [(.pv (.str s), none), (.ptr 8192 0, some (.box [.pv (.bool false), .pv .nils, .pv .nils, .pv .nils])), (.ptr 16384 0, some (.box [.pv (.str r), .pv (.bool b)])), (.ptr 20480 0, some (.box [.pv (.bool false), .lst 1 9 (List.length ks) (List.map PV.str ks) true, .pv .nils, .lst 1 2 (List.length cs) (List.map (PV.int .i64) cs) true]))]))) := by kernel_rfl
def zzat0 (s : ByteArray) (r : ByteArray) (b : Bool) (ks : List ByteArray) (vs : List ByteArray) (last : ByteArray) (n : Int) := (bif bif false then decide ((↑(ByteArray.size last) : Int) > oneV r) else decide ((↑(ByteArray.size last) : Int) < oneV r) then (↑(ByteArray.size last) : Int) else oneV r)
theorem jg5 (s : ByteArray) (r : ByteArray) (b : Bool) (ks : List ByteArray) (vs : List ByteArray) (last : ByteArray) (n : Int) : r_gpL brC s r b ks vs last n =
 brC (decide (n > 0))
 (brC (!b)
 (brC (decide (ByteArray.size r ≤ 2000000))
 (brC (decide (ByteArray.size (tkR r 1) ≤ 2000000))
 (brC (decide (0 ≤ 0) && decide (0 ≤ bif bif false then decide ((↑(ByteArray.size last) : Int) > oneV r) else decide ((↑(ByteArray.size last) : Int) < oneV r) then (↑(ByteArray.size last) : Int) else oneV r) && decide ((zzat0 s r b ks vs last n) ≤ (↑(ByteArray.size last) : Int)) && true && true)
 (brC (decide (0 ≤ oneV (tkR r 1)) && decide (ByteArray.size (tkR (tkR r 1) 1) ≤ 2000000))
 (brC (decide (ByteArray.size (ByteArray.extract last 0 (Int.toNat (zzat0 s r b ks vs last n))) + ByteArray.size (tkS (tkR (tkR r 1) 1) (Int.toNat (oneV (tkR r 1)))) ≤ 9223372036854775807) && true)
 (brC (Nat.beq (List.length [PV.str (ByteArray.extract last 0 (Int.toNat (zzat0 s r b ks vs last n)) ++ tkS (tkR (tkR r 1) 1) (Int.toNat (oneV (tkR r 1))))]) (1 * 1) && (decide (List.length ks + 1 ≤ 140737488351232) && decide ((List.length ks + 1) * 16 ≤ 140737488355328)))
 (brC (decide (ByteArray.size (tkR (tkR (tkR r 1) 1) (Int.toNat (oneV (tkR r 1)))) ≤ 2000000))
 (brC (decide (0 ≤ oneV (tkR (tkR (tkR r 1) 1) (Int.toNat (oneV (tkR r 1))))) && decide (ByteArray.size (tkR (tkR (tkR (tkR r 1) 1) (Int.toNat (oneV (tkR r 1)))) 1) ≤ 2000000))
 (brC (Nat.beq (List.length [PV.str (tkS (tkR (tkR (tkR (tkR r 1) 1) (Int.toNat (oneV (tkR r 1)))) 1) (Int.toNat (oneV (tkR (tkR (tkR r 1) 1) (Int.toNat (oneV (tkR r 1)))))))]) (1 * 1) && (decide (List.length vs + 1 ≤ 140737488351232) && decide ((List.length vs + 1) * 16 ≤ 140737488355328)))
 (some (.inl [(.pv (.str s), none), (.ptr 8192 0, some (.box [.pv (.bool false), .pv .nils, .pv .nils, .pv .nils])), (.ptr 16384 0, some (.box [.pv (.str (tkR (tkR (tkR (tkR (tkR r 1) 1) (Int.toNat (oneV (tkR r 1)))) 1) (Int.toNat (oneV (tkR (tkR (tkR r 1) 1) (Int.toNat (oneV (tkR r 1)))))))), .pv (.bool (tkB (tkR (tkR (tkR (tkR r 1) 1) (Int.toNat (oneV (tkR r 1)))) 1) (tkB (tkR (tkR (tkR r 1) 1) (Int.toNat (oneV (tkR r 1)))) (tkB (tkR (tkR r 1) 1) (tkB (tkR r 1) (tkB r b 1) 1) (Int.toNat (oneV (tkR r 1)))) 1) (Int.toNat (oneV (tkR (tkR (tkR r 1) 1) (Int.toNat (oneV (tkR r 1))))))))])), (.ptr 20480 0, some (.box [.pv (.bool true), .lst 1 9 (List.length ks + 1) (List.map PV.str ks ++ [PV.str (ByteArray.extract last 0 (Int.toNat (zzat0 s r b ks vs last n)) ++ tkS (tkR (tkR r 1) 1) (Int.toNat (oneV (tkR r 1))))]) true, .lst 1 9 (List.length vs + 1) (List.map PV.str vs ++ [PV.str (tkS (tkR (tkR (tkR (tkR r 1) 1) (Int.toNat (oneV (tkR r 1)))) 1) (Int.toNat (oneV (tkR (tkR (tkR r 1) 1) (Int.toNat (oneV (tkR r 1)))))))]) true, .pv .nils])), (.pv (.str (ByteArray.extract last 0 (Int.toNat (zzat0 s r b ks vs last n)) ++ tkS (tkR (tkR r 1) 1) (Int.toNat (oneV (tkR r 1))))), none), (.pv (.int .i64 (IntKind.wrap .i64 (n - 1))), none)]))
 none)
 none)
 none)
 none)
 none)
 none)
 none)
 none)
 none)
 (some (.inr (.exit 0, [(.pv (.str s), none), (.ptr 8192 0, some (.box [.pv (.bool false), .pv .nils, .pv .nils, .pv .nils])), (.ptr 16384 0, some (.box [.pv (.str r), .pv (.bool b)])), (.ptr 20480 0, some (.box [.pv (.bool true), .lst 1 9 (List.length ks) (List.map PV.str ks) true, .lst 1 9 (List.length vs) (List.map PV.str vs) true, .pv .nils]))]))))
 (some (.inr (.exit 0, [(.pv (.str s), none), (.ptr 8192 0, some (.box [.pv (.bool false), .pv .nils, .pv .nils, .pv .nils])), (.ptr 16384 0, some (.box [.pv (.str r), .pv (.bool b)])), (.ptr 20480 0, some (.box [.pv (.bool true), .lst 1 9 (List.length ks) (List.map PV.str ks) true, .lst 1 9 (List.length vs) (List.map PV.str vs) true, .pv .nils]))]))) := by kernel_rfl
theorem jlT (s : ByteArray) (s2 : ByteArray) (a : Int) (b : Bool) (m : Int) (cs : List Int) (i : Int) : r_sk1 brC s s2 a b m cs i =
 brC (decide (i ≤ m))
 (brC (decide (i ≤ 6))
 (brC (decide (0 ≤ a) && decide (a ≤ (↑(ByteArray.size s2) : Int)) && decide (ByteArray.size s2 ≤ 2000000))
 (brC (Nat.beq (List.length [PV.int .i64 (oneV (rst s2 (Int.toNat a)))]) (1 * 1) && (decide (List.length cs + 1 ≤ 140737488351232) && decide ((List.length cs + 1) * 8 ≤ 140737488355328)))
 (some (.inl [(.pv (.str s), none), (.ptr 8192 0, some (.box [.pv (.bool false), .pv .nils, .pv .nils, .pv .nils])), (.ptr 16384 0, some (.box [.pv (.str s2), .pv (.int .i64 (posR s2 (tkR (rst s2 (Int.toNat a)) 1))), .pv (.bool (tkB (rst s2 (Int.toNat a)) b 1))])), (.pv (.int .i64 m), none), (.ptr 28672 0, some (.box [.pv (.bool false), .pv .nils, .pv .nils, .lst 1 2 (List.length cs + 1) (List.map (PV.int .i64) cs ++ [PV.int .i64 (oneV (rst s2 (Int.toNat a)))]) true])), (.pv (.int .i64 (IntKind.wrap .i64 (i + 1))), none)]))
 none)
 none)
 (some (.inr (.exit 2, [(.pv (.str s), none), (.ptr 8192 0, some (.box [.pv (.bool false), .pv .nils, .pv .nils, .pv .nils])), (.ptr 16384 0, some (.box [.pv (.str s2), .pv (.int .i64 a), .pv (.bool b)])), (.ptr 28672 0, some (.box [.pv (.bool false), .pv .nils, .pv .nils, .lst 1 2 (List.length cs) (List.map (PV.int .i64) cs) true]))]))))
 (some (.inr (.exit 2, [(.pv (.str s), none), (.ptr 8192 0, some (.box [.pv (.bool false), .pv .nils, .pv .nils, .pv .nils])), (.ptr 16384 0, some (.box [.pv (.str s2), .pv (.int .i64 a), .pv (.bool b)])), (.ptr 28672 0, some (.box [.pv (.bool false), .pv .nils, .pv .nils, .lst 1 2 (List.length cs) (List.map (PV.int .i64) cs) true]))]))) := by kernel_rfl
def zzav0 (s : ByteArray) (r : ByteArray) (b : Bool) (lf : Bool) (last : ByteArray) (n : Int) := (bif bif false then decide ((↑(ByteArray.size last) : Int) > oneV r) else decide ((↑(ByteArray.size last) : Int) < oneV r) then (↑(ByteArray.size last) : Int) else oneV r)
theorem jhR (s : ByteArray) (r : ByteArray) (b : Bool) (lf : Bool) (last : ByteArray) (n : Int) : r_gp0 brC s r b lf last n =
 brC (decide (n > 0))
 (brC (!b)
 (brC (decide (ByteArray.size r ≤ 2000000))
 (brC (decide (ByteArray.size (tkR r 1) ≤ 2000000))
 (brC (decide (0 ≤ 0) && decide (0 ≤ bif bif false then decide ((↑(ByteArray.size last) : Int) > oneV r) else decide ((↑(ByteArray.size last) : Int) < oneV r) then (↑(ByteArray.size last) : Int) else oneV r) && decide ((zzav0 s r b lf last n) ≤ (↑(ByteArray.size last) : Int)) && true && true)
 (brC (decide (0 ≤ oneV (tkR r 1)) && decide (ByteArray.size (tkR (tkR r 1) 1) ≤ 2000000))
 (brC (decide (ByteArray.size (ByteArray.extract last 0 (Int.toNat (zzav0 s r b lf last n))) + ByteArray.size (tkS (tkR (tkR r 1) 1) (Int.toNat (oneV (tkR r 1)))) ≤ 9223372036854775807) && true)
 (brC (lf)
 (brC (decide (ByteArray.size (tkR (tkR (tkR r 1) 1) (Int.toNat (oneV (tkR r 1)))) ≤ 2000000))
 (brC (decide (0 ≤ oneV (tkR (tkR (tkR r 1) 1) (Int.toNat (oneV (tkR r 1))))) && decide (ByteArray.size (tkR (tkR (tkR (tkR r 1) 1) (Int.toNat (oneV (tkR r 1)))) 1) ≤ 2000000))
 (some (.inl [(.pv (.str s), none), (.ptr 8192 0, some (.box [.pv (.bool false), .pv .nils, .pv .nils, .pv .nils])), (.ptr 16384 0, some (.box [.pv (.str (tkR (tkR (tkR (tkR (tkR r 1) 1) (Int.toNat (oneV (tkR r 1)))) 1) (Int.toNat (oneV (tkR (tkR (tkR r 1) 1) (Int.toNat (oneV (tkR r 1)))))))), .pv (.bool (tkB (tkR (tkR (tkR (tkR r 1) 1) (Int.toNat (oneV (tkR r 1)))) 1) (tkB (tkR (tkR (tkR r 1) 1) (Int.toNat (oneV (tkR r 1)))) (tkB (tkR (tkR r 1) 1) (tkB (tkR r 1) (tkB r b 1) 1) (Int.toNat (oneV (tkR r 1)))) 1) (Int.toNat (oneV (tkR (tkR (tkR r 1) 1) (Int.toNat (oneV (tkR r 1))))))))])), (.ptr 20480 0, some (.box [.pv (.bool lf), .lst 1 9 1 [PV.str (ByteArray.extract last 0 (Int.toNat (zzav0 s r b lf last n)) ++ tkS (tkR (tkR r 1) 1) (Int.toNat (oneV (tkR r 1))))] true, .lst 1 9 1 [PV.str (tkS (tkR (tkR (tkR (tkR r 1) 1) (Int.toNat (oneV (tkR r 1)))) 1) (Int.toNat (oneV (tkR (tkR (tkR r 1) 1) (Int.toNat (oneV (tkR r 1)))))))] true, .pv .nils])), (.pv (.str (ByteArray.extract last 0 (Int.toNat (zzav0 s r b lf last n)) ++ tkS (tkR (tkR r 1) 1) (Int.toNat (oneV (tkR r 1))))), none), (.pv (.int .i64 (IntKind.wrap .i64 (n - 1))), none)]))
 none)
 none)
 (some (.inl [(.pv (.str s), none), (.ptr 8192 0, some (.box [.pv (.bool false), .pv .nils, .pv .nils, .pv .nils])), (.ptr 16384 0, some (.box [.pv (.str (tkR (tkR (tkR r 1) 1) (Int.toNat (oneV (tkR r 1))))), .pv (.bool (tkB (tkR (tkR r 1) 1) (tkB (tkR r 1) (tkB r b 1) 1) (Int.toNat (oneV (tkR r 1)))))])), (.ptr 20480 0, some (.box [.pv (.bool lf), .lst 1 9 1 [PV.str (ByteArray.extract last 0 (Int.toNat (zzav0 s r b lf last n)) ++ tkS (tkR (tkR r 1) 1) (Int.toNat (oneV (tkR r 1))))] true, .pv .nils, .pv .nils])), (.pv (.str (ByteArray.extract last 0 (Int.toNat (zzav0 s r b lf last n)) ++ tkS (tkR (tkR r 1) 1) (Int.toNat (oneV (tkR r 1))))), none), (.pv (.int .i64 (IntKind.wrap .i64 (n - 1))), none)])))
 none)
 none)
 none)
 none)
 none)
 (some (.inr (.exit 0, [(.pv (.str s), none), (.ptr 8192 0, some (.box [.pv (.bool false), .pv .nils, .pv .nils, .pv .nils])), (.ptr 16384 0, some (.box [.pv (.str r), .pv (.bool b)])), (.ptr 20480 0, some (.box [.pv (.bool lf), .pv .nils, .pv .nils, .pv .nils]))]))))
 (some (.inr (.exit 0, [(.pv (.str s), none), (.ptr 8192 0, some (.box [.pv (.bool false), .pv .nils, .pv .nils, .pv .nils])), (.ptr 16384 0, some (.box [.pv (.str r), .pv (.bool b)])), (.ptr 20480 0, some (.box [.pv (.bool lf), .pv .nils, .pv .nils, .pv .nils]))]))) := by kernel_rfl
theorem jkX (s : ByteArray) (s2 : ByteArray) (a : Int) (b : Bool) (m : Int) (lf : Bool) (i : Int) : r_sk0 brC s s2 a b m lf i =
 brC (decide (i ≤ m))
 (brC (!lf)
 (brC (decide (i ≤ 6))
 (brC (decide (0 ≤ a) && decide (a ≤ (↑(ByteArray.size s2) : Int)) && decide (ByteArray.size s2 ≤ 2000000))
 (some (.inl [(.pv (.str s), none), (.ptr 8192 0, some (.box [.pv (.bool false), .pv .nils, .pv .nils, .pv .nils])), (.ptr 16384 0, some (.box [.pv (.str s2), .pv (.int .i64 (posR s2 (tkR (rst s2 (Int.toNat a)) 1))), .pv (.bool (tkB (rst s2 (Int.toNat a)) b 1))])), (.pv (.int .i64 m), none), (.ptr 28672 0, some (.box [.pv (.bool lf), .pv .nils, .pv .nils, .lst 1 2 1 [PV.int .i64 (oneV (rst s2 (Int.toNat a)))] true])), (.pv (.int .i64 (IntKind.wrap .i64 (i + 1))), none)]))
 none)
 (some (.inr (.exit 2, [(.pv (.str s), none), (.ptr 8192 0, some (.box [.pv (.bool false), .pv .nils, .pv .nils, .pv .nils])), (.ptr 16384 0, some (.box [.pv (.str s2), .pv (.int .i64 a), .pv (.bool b)])), (.ptr 28672 0, some (.box [.pv (.bool lf), .pv .nils, .pv .nils, .pv .nils]))]))))
 (some (.inr (.exit 2, [(.pv (.str s), none), (.ptr 8192 0, some (.box [.pv (.bool false), .pv .nils, .pv .nils, .pv .nils])), (.ptr 16384 0, some (.box [.pv (.str s2), .pv (.int .i64 a), .pv (.bool b)])), (.ptr 28672 0, some (.box [.pv (.bool lf), .pv .nils, .pv .nils, .pv .nils]))]))))
 (some (.inr (.exit 2, [(.pv (.str s), none), (.ptr 8192 0, some (.box [.pv (.bool false), .pv .nils, .pv .nils, .pv .nils])), (.ptr 16384 0, some (.box [.pv (.str s2), .pv (.int .i64 a), .pv (.bool b)])), (.ptr 28672 0, some (.box [.pv (.bool lf), .pv .nils, .pv .nils, .pv .nils]))]))) := by kernel_rfl
def zzax0 (s : ByteArray) := (Prod.snd (kdN (Int.toNat (IntKind.wrap .i64 ((↑(List.length (Prod.fst (Prod.snd (Prod.snd (gpN false (Int.toNat (oneV (tkR s 1))) (tkR (tkR s 1) 1) (tkB (tkR s 1) (tkB s false 1) 1) { data := #[] } [] []))))) : Int) + 1))) (Prod.fst (gpN false (Int.toNat (oneV (tkR s 1))) (tkR (tkR s 1) 1) (tkB (tkR s 1) (tkB s false 1) 1) { data := #[] } [] [])) (Prod.fst (Prod.snd (gpN false (Int.toNat (oneV (tkR s 1))) (tkR (tkR s 1) 1) (tkB (tkR s 1) (tkB s false 1) 1) { data := #[] } [] []))) []))
def zzax1 (s : ByteArray) := (Prod.snd (Prod.snd (gpN true (Int.toNat (oneV (tkR s 1))) (tkR (tkR s 1) 1) (tkB (tkR s 1) (tkB s false 1) 1) { data := #[] } [] [])))
def zzax2 (s : ByteArray) := (Prod.fst (Prod.snd (Prod.snd (gpN false (Int.toNat (oneV (tkR s 1))) (tkR (tkR s 1) 1) (tkB (tkR s 1) (tkB s false 1) 1) { data := #[] } [] []))))
theorem jpq (s : ByteArray) : q_gp brC s =
 brC ((↑(ByteArray.size s) : Int) != 1700)
 (some ((.tup [.agg [.pv (.bool false), .pv .nils, .pv .nils, .pv .nils], .cv (.pv (.bool false))], [])))
 (brC (decide (ByteArray.size s ≤ 2000000))
 (brC (decide (ByteArray.size (tkR s 1) ≤ 2000000))
 (brC (Nat.beq 8192 8192 && Nat.beq 16384 16384 && Nat.beq 20480 20480 && (decide (oneV (tkR s 1) ≤ 0) || tkB (tkR s 1) (tkB s false 1) 1))
 (brC (!oneV s == 1)
 (brC (!oneV s == 1 && Nat.beq 8192 8192 && Nat.beq 16384 16384 && Nat.beq 20480 20480 && decide (1 ≤ IntKind.wrap .i64 (0 + 1)) && decide (IntKind.wrap .i64 (0 + 1) ≤ 256) && holds (ByteArray.size (tkR (tkR s 1) 1) ≤ 2000000) && 0 == 0)
 (brC (Prod.fst (Prod.snd (kdN 1 (tkR (tkR s 1) 1) (tkB (tkR s 1) (tkB s false 1) 1) [])))
 (some ((.tup [.agg [.pv (.bool false), .pv .nils, .pv .nils, .pv .nils], .cv (.pv (.bool false))], [])))
 (brC (isPg (PV.agg [PV.bool false, PV.sl 0 [], PV.sl 0 [], PV.sl (List.length [oneV (tkR (tkR s 1) 1)]) [PV.int .i64 (oneV (tkR (tkR s 1) 1))]]) && holds (smK (PgT.keys (asPg (PV.agg [PV.bool false, PV.sl 0 [], PV.sl 0 [], PV.sl (List.length [oneV (tkR (tkR s 1) 1)]) [PV.int .i64 (oneV (tkR (tkR s 1) 1))]])))))
 (brC (!ByteArray.toList (pageV (asPg (PV.agg [PV.bool false, PV.sl 0 [], PV.sl 0 [], PV.sl (List.length [oneV (tkR (tkR s 1) 1)]) [PV.int .i64 (oneV (tkR (tkR s 1) 1))]]))) == ByteArray.toList s)
 (some ((.tup [.agg [.pv (.bool false), .pv .nils, .pv .nils, .pv .nils], .cv (.pv (.bool false))], [])))
 (some ((.tup [.agg [.pv (.bool false), .pv .nils, .pv .nils, .lst 1 2 (List.length [oneV (tkR (tkR s 1) 1)]) [PV.int .i64 (oneV (tkR (tkR s 1) 1))] true], .cv (.pv (.bool true))], []))))
 none))
 none)
 (brC (tkB (tkR s 1) (tkB s false 1) 1)
 (some ((.tup [.agg [.pv (.bool false), .pv .nils, .pv .nils, .pv .nils], .cv (.pv (.bool false))], [])))
 (brC (isPg (PV.agg [PV.bool (oneV s == 1), PV.sl 0 [], PV.sl 0 [], PV.sl 0 []]) && holds (smK (PgT.keys (asPg (PV.agg [PV.bool (oneV s == 1), PV.sl 0 [], PV.sl 0 [], PV.sl 0 []])))))
 (brC (!ByteArray.toList (pageV (asPg (PV.agg [PV.bool (oneV s == 1), PV.sl 0 [], PV.sl 0 [], PV.sl 0 []]))) == ByteArray.toList s)
 (some ((.tup [.agg [.pv (.bool false), .pv .nils, .pv .nils, .pv .nils], .cv (.pv (.bool false))], [])))
 (some ((.tup [.agg [.pv (.bool (oneV s == 1)), .pv .nils, .pv .nils, .pv .nils], .cv (.pv (.bool true))], []))))
 none)))
 (brC (Nat.beq 8192 8192 && Nat.beq 16384 16384 && Nat.beq 20480 20480 && decide (0 ≤ oneV (tkR s 1)) && decide (oneV (tkR s 1) ≤ 255) && holds (ByteArray.size (tkR (tkR s 1) 1) ≤ 2000000) && Nat.beq 0 0 && oneV s == 1)
 (brC (Prod.fst (Prod.snd (gpN true (Int.toNat (oneV (tkR s 1))) (tkR (tkR s 1) 1) (tkB (tkR s 1) (tkB s false 1) 1) { data := #[] } [] [])))
 (some ((.tup [.agg [.pv (.bool false), .pv .nils, .pv .nils, .pv .nils], .cv (.pv (.bool false))], [])))
 (brC (isPg (PV.agg [PV.bool true, PV.sl (List.length (Prod.fst (zzax1 s))) (List.map PV.str (Prod.fst (zzax1 s))), PV.sl (List.length (Prod.snd (zzax1 s))) (List.map PV.str (Prod.snd (zzax1 s))), PV.sl 0 []]) && holds (smK (PgT.keys (asPg (PV.agg [PV.bool true, PV.sl (List.length (Prod.fst (zzax1 s))) (List.map PV.str (Prod.fst (zzax1 s))), PV.sl (List.length (Prod.snd (zzax1 s))) (List.map PV.str (Prod.snd (zzax1 s))), PV.sl 0 []])))))
 (brC (!ByteArray.toList (pageV (asPg (PV.agg [PV.bool true, PV.sl (List.length (Prod.fst (zzax1 s))) (List.map PV.str (Prod.fst (zzax1 s))), PV.sl (List.length (Prod.snd (zzax1 s))) (List.map PV.str (Prod.snd (zzax1 s))), PV.sl 0 []]))) == ByteArray.toList s)
 (some ((.tup [.agg [.pv (.bool false), .pv .nils, .pv .nils, .pv .nils], .cv (.pv (.bool false))], [])))
 (some ((.tup [.agg [.pv (.bool true), .lst 1 9 (List.length (Prod.fst (zzax1 s))) (List.map PV.str (Prod.fst (zzax1 s))) true, .lst 1 9 (List.length (Prod.snd (zzax1 s))) (List.map PV.str (Prod.snd (zzax1 s))) true, .pv .nils], .cv (.pv (.bool true))], []))))
 none))
 (brC (Nat.beq 8192 8192 && Nat.beq 16384 16384 && Nat.beq 20480 20480 && decide (0 ≤ oneV (tkR s 1)) && decide (oneV (tkR s 1) ≤ 255) && holds (ByteArray.size (tkR (tkR s 1) 1) ≤ 2000000) && Nat.beq 0 0 && !oneV s == 1)
 (brC (!false && Nat.beq 8192 8192 && Nat.beq 16384 16384 && Nat.beq 20480 20480 && Nat.beq 9 9 && isL (PV.sl (List.length (zzax2 s)) (List.map PV.str (zzax2 s))) && decide (1 ≤ IntKind.wrap .i64 ((↑(List.length (zzax2 s)) : Int) + 1)) && decide (IntKind.wrap .i64 ((↑(List.length (zzax2 s)) : Int) + 1) ≤ 256) && holds (ByteArray.size (Prod.fst (gpN false (Int.toNat (oneV (tkR s 1))) (tkR (tkR s 1) 1) (tkB (tkR s 1) (tkB s false 1) 1) { data := #[] } [] [])) ≤ 2000000) && 0 == 0)
 (brC (Prod.fst (zzax0 s))
 (some ((.tup [.agg [.pv (.bool false), .pv .nils, .pv .nils, .pv .nils], .cv (.pv (.bool false))], [])))
 (brC (isPg (PV.agg [PV.bool false, PV.sl (List.length (zzax2 s)) (List.map PV.str (zzax2 s)), PV.sl 0 [], PV.sl (List.length (Prod.snd (zzax0 s))) (List.map (PV.int .i64) (Prod.snd (zzax0 s)))]) && holds (smK (PgT.keys (asPg (PV.agg [PV.bool false, PV.sl (List.length (zzax2 s)) (List.map PV.str (zzax2 s)), PV.sl 0 [], PV.sl (List.length (Prod.snd (zzax0 s))) (List.map (PV.int .i64) (Prod.snd (zzax0 s)))])))))
 (brC (!ByteArray.toList (pageV (asPg (PV.agg [PV.bool false, PV.sl (List.length (zzax2 s)) (List.map PV.str (zzax2 s)), PV.sl 0 [], PV.sl (List.length (Prod.snd (zzax0 s))) (List.map (PV.int .i64) (Prod.snd (zzax0 s)))]))) == ByteArray.toList s)
 (some ((.tup [.agg [.pv (.bool false), .pv .nils, .pv .nils, .pv .nils], .cv (.pv (.bool false))], [])))
 (some ((.tup [.agg [.pv (.bool false), .lst 1 9 (List.length (zzax2 s)) (List.map PV.str (zzax2 s)) true, .pv .nils, .lst 1 2 (List.length (Prod.snd (zzax0 s))) (List.map (PV.int .i64) (Prod.snd (zzax0 s))) true], .cv (.pv (.bool true))], []))))
 none))
 none)
 none)))
 none)
 none) := by kernel_rfl
theorem jp5 (s : ByteArray) (r : ByteArray) (b : Bool) (ks : List ByteArray) (m : Int) (i : Int) : r_gk2 brC s r b ks m i =
 brC (decide (i < m))
 (brC (decide (ByteArray.size r ≤ 2000000))
 (some (.inl [(.pv (.str s), none), (.ptr 8192 0, some (.box [.pv (.bool false), .pv .nils, .pv .nils, .pv .nils])), (.ptr 16384 0, some (.box [.pv (.str (tkR r 1)), .pv (.bool (tkB r b 1))])), (.ptr 20480 0, some (.box [.pv (.bool false), .lst 1 9 (List.length ks) (List.map PV.str ks) true, .pv .nils, .lst 1 2 1 [PV.int .i64 (oneV r)] true])), (.pv (.int .i64 m), none), (.pv (.int .i64 (IntKind.wrap .i64 (i + 1))), none)]))
 none)
 (some (.inr (.exit 2, [(.pv (.str s), none), (.ptr 8192 0, some (.box [.pv (.bool false), .pv .nils, .pv .nils, .pv .nils])), (.ptr 16384 0, some (.box [.pv (.str r), .pv (.bool b)])), (.ptr 20480 0, some (.box [.pv (.bool false), .lst 1 9 (List.length ks) (List.map PV.str ks) true, .pv .nils, .pv .nils]))]))) := by kernel_rfl
theorem jle (s : ByteArray) (s2 : ByteArray) (a : Int) (b : Bool) (m : Int) (ks : List ByteArray) (cs : List Int) (i : Int) : r_sk3 brC s s2 a b m ks cs i =
 brC (decide (i ≤ m))
 (brC (decide (i ≤ 6))
 (brC (decide (0 ≤ a) && decide (a ≤ (↑(ByteArray.size s2) : Int)) && decide (ByteArray.size s2 ≤ 2000000))
 (brC (Nat.beq (List.length [PV.int .i64 (oneV (rst s2 (Int.toNat a)))]) (1 * 1) && (decide (List.length cs + 1 ≤ 140737488351232) && decide ((List.length cs + 1) * 8 ≤ 140737488355328)))
 (some (.inl [(.pv (.str s), none), (.ptr 8192 0, some (.box [.pv (.bool false), .pv .nils, .pv .nils, .pv .nils])), (.ptr 16384 0, some (.box [.pv (.str s2), .pv (.int .i64 (posR s2 (tkR (rst s2 (Int.toNat a)) 1))), .pv (.bool (tkB (rst s2 (Int.toNat a)) b 1))])), (.pv (.int .i64 m), none), (.ptr 28672 0, some (.box [.pv (.bool false), .lst 1 9 (List.length ks) (List.map PV.str ks) true, .pv .nils, .lst 1 2 (List.length cs + 1) (List.map (PV.int .i64) cs ++ [PV.int .i64 (oneV (rst s2 (Int.toNat a)))]) true])), (.pv (.int .i64 (IntKind.wrap .i64 (i + 1))), none)]))
 none)
 none)
 (some (.inr (.exit 2, [(.pv (.str s), none), (.ptr 8192 0, some (.box [.pv (.bool false), .pv .nils, .pv .nils, .pv .nils])), (.ptr 16384 0, some (.box [.pv (.str s2), .pv (.int .i64 a), .pv (.bool b)])), (.ptr 28672 0, some (.box [.pv (.bool false), .lst 1 9 (List.length ks) (List.map PV.str ks) true, .pv .nils, .lst 1 2 (List.length cs) (List.map (PV.int .i64) cs) true]))]))))
 (some (.inr (.exit 2, [(.pv (.str s), none), (.ptr 8192 0, some (.box [.pv (.bool false), .pv .nils, .pv .nils, .pv .nils])), (.ptr 16384 0, some (.box [.pv (.str s2), .pv (.int .i64 a), .pv (.bool b)])), (.ptr 28672 0, some (.box [.pv (.bool false), .lst 1 9 (List.length ks) (List.map PV.str ks) true, .pv .nils, .lst 1 2 (List.length cs) (List.map (PV.int .i64) cs) true]))]))) := by kernel_rfl
end
section
open Go.RowKit
theorem jmg (lf : Bool) (last key val r : ByteArray) : recV lf last key val ++ r = litV (jae last key : Int) 1 ++ (jbq (key.extract (jae last key) key.size) ++ ((if lf = true then jbq val else ⟨#[]⟩) ++ r)) := by
 have hs := (jbP last key).2
 have e : ((key.size : Int) - (jae last key : Int)) = (((key.extract (jae last key) key.size).size : Nat) : Int) := by rw [ByteArray.size_extract]; omega
 rw [jd2, je4, je4, e]
 simp only [ByteArray.append_assoc]
theorem jlu (lf : Bool) (last key val r : ByteArray) (hk : key.size ≤ 213) (hv : lf = true → val.size ≤ 64) :
  gR lf (recV lf last key val ++ r) = r ∧ gB lf (recV lf last key val ++ r) false = false ∧ ukey (recV lf last key val ++ r) last = key ∧ (lf = true → gV (recV lf last key val ++ r) = val) ∧ oneV (recV lf last key val ++ r) = jae last key := by
 obtain ⟨c1, c2⟩ := jbP last key
 have hxz : (key.extract (jae last key) key.size).size ≤ 255 := by rw [ByteArray.size_extract]; omega
 rw [jmg]
 have o1 := jcX (jae last key) (jbq (key.extract (jae last key) key.size) ++ ((if lf = true then jbq val else ⟨#[]⟩) ++ r)) (by omega)
 have q1 : tkR (litV (jae last key : Int) 1 ++ (jbq (key.extract (jae last key) key.size) ++ ((if lf = true then jbq val else ⟨#[]⟩) ++ r))) 1 = jbq (key.extract (jae last key) key.size) ++ ((if lf = true then jbq val else ⟨#[]⟩) ++ r) := jbo _ _ (jal _ _).symm
 have q2 : tkB (litV (jae last key : Int) 1 ++ (jbq (key.extract (jae last key) key.size) ++ ((if lf = true then jbq val else ⟨#[]⟩) ++ r))) false 1 = false := jea _ _ _ (jal _ _).symm
 obtain ⟨a1, a2, a3⟩ := jkV (key.extract (jae last key) key.size) ((if lf = true then jbq val else ⟨#[]⟩) ++ r) hxz
 have hky : ukey (litV (jae last key : Int) 1 ++ (jbq (key.extract (jae last key) key.size) ++ ((if lf = true then jbq val else ⟨#[]⟩) ++ r))) last = key := by
  unfold ukey ucut
  rw [o1, q1, a1, nqF, Nat.min_eq_left c1, jmi]
 cases lf with
 | true =>
  rw [if_pos rfl] at *
  obtain ⟨b1, b2, b3⟩ := jkV val r (by have := hv rfl; omega)
  refine ⟨?_, ?_, hky, fun _ => ?_, o1⟩
  ·unfold gR
   rw [cond_true, q1, a2, b2]
  ·unfold gB
   rw [cond_true, q1, q2, a2, a3, b3]
  ·unfold gV
   rw [q1, a2, b1]
 | false =>
  rw [if_neg Bool.false_ne_true, jbA] at *
  refine ⟨?_, ?_, hky, fun h => (Bool.false_ne_true h).elim, o1⟩
  ·unfold gR
   rw [cond_false, q1, a2]
  ·unfold gB
   rw [cond_false, q1, q2, a3]
theorem jdH (lf : Bool) : ∀ (l v : List ByteArray) (s last : ByteArray), recsT lf s last l v = s ++ recsT lf ⟨#[]⟩ last l v
 | [], v, s, last => by unfold recsT; rw [jj0]
 | k :: t, v, s, last => by
  unfold recsT
  rw [jdH lf t v.tail (s ++ recV lf last k (v.headD ⟨#[]⟩)), jdH lf t v.tail (⟨#[]⟩ ++ recV lf last k (v.headD ⟨#[]⟩)), jbA, ByteArray.append_assoc]
theorem jcT (lf : Bool) (k : ByteArray) (t v : List ByteArray) (last r : ByteArray) : recsT lf ⟨#[]⟩ last (k :: t) v ++ r = recV lf last k (v.headD ⟨#[]⟩) ++ (recsT lf ⟨#[]⟩ k t v.tail ++ r) := by
 rw [show recsT lf ⟨#[]⟩ last (k :: t) v = recsT lf (⟨#[]⟩ ++ recV lf last k (v.headD ⟨#[]⟩)) k t v.tail from rfl, jbA, jdH, ByteArray.append_assoc]
theorem jdN : ∀ (l : List Int) (s : ByteArray), kidsT s l = s ++ kidsT ⟨#[]⟩ l
 | [], s => by unfold kidsT; rw [jj0]
 | k :: t, s => by
  unfold kidsT
  rw [jdN t (s ++ litV k 1), jdN t (⟨#[]⟩ ++ litV k 1), jbA, ByteArray.append_assoc]
theorem jjk : ∀ (l v pre vpre : List ByteArray) (r last : ByteArray), (∀ k ∈ l, k.size ≤ 213) → v.length = l.length → (∀ x ∈ v, x.size ≤ 64) →
  gpN true l.length (recsT true ⟨#[]⟩ last l v ++ r) false last pre vpre = (r, false, pre ++ l, vpre ++ v)
 | [], [], pre, vpre, r, last, _, _, _ => by
  unfold recsT
  rw [jbA, List.append_nil, List.append_nil]
  rfl
 | [], _ :: _, _, _, _, _, _, h, _ => by cases h
 | _ :: _, [], _, _, _, _, _, h, _ => by cases h
 | k :: t, x :: v, pre, vpre, r, last, hl, he, hv => by
  have ih := jjk t v (pre ++ [k]) (vpre ++ [x]) r k (fun i hi => hl i (List.mem_cons_of_mem _ hi)) (by simpa using he) fun i hi => hv i (List.mem_cons_of_mem _ hi)
  obtain ⟨u1, u2, u3, u4, _⟩ := jlu true last k x (recsT true ⟨#[]⟩ k t v ++ r) (hl k (List.mem_cons_self ..)) fun _ => hv x (List.mem_cons_self ..)
  have u4 := u4 rfl
  rw [jcT, nqH, List.headD_cons, List.tail_cons]
  unfold gpN
  rw [cond_false, u1, u2, u3, u4, cond_true, ih, List.append_assoc, List.append_assoc]
  rfl
theorem jiW : ∀ (l v pre vpre : List ByteArray) (r last : ByteArray), (∀ k ∈ l, k.size ≤ 213) →
  gpN false l.length (recsT false ⟨#[]⟩ last l v ++ r) false last pre vpre = (r, false, pre ++ l, vpre)
 | [], v, pre, vpre, r, last, _ => by
  unfold recsT
  rw [jbA, List.append_nil]
  rfl
 | k :: t, v, pre, vpre, r, last, hl => by
  have ih := jiW t v.tail (pre ++ [k]) vpre r k fun i hi => hl i (List.mem_cons_of_mem _ hi)
  obtain ⟨u1, u2, u3, _, _⟩ := jlu false last k (v.headD ⟨#[]⟩) (recsT false ⟨#[]⟩ k t v.tail ++ r) (hl k (List.mem_cons_self ..)) fun h => (Bool.false_ne_true h).elim
  rw [jcT, nqH]
  unfold gpN
  rw [cond_false, u1, u2, u3, cond_false, ih, List.append_assoc]
  rfl
theorem jlJ : ∀ (l pre : List Int) (r : ByteArray), (∀ k ∈ l, kidO k = true) → kdN l.length (kidsT ⟨#[]⟩ l ++ r) false pre = (r, false, pre ++ l)
 | [], pre, r, _ => by
  unfold kidsT
  rw [jbA, List.append_nil]
  rfl
 | k :: t, pre, r, h => by
  obtain ⟨h0, h1⟩ := jh1 (h k (List.mem_cons_self ..))
  obtain ⟨m, rfl⟩ : ∃ m : Nat, k = (m : Int) := ⟨k.toNat, by omega⟩
  have ih := jlJ t (pre ++ [(m : Int)]) r fun i hi => h i (List.mem_cons_of_mem _ hi)
  have e : kidsT ⟨#[]⟩ ((m : Int) :: t) ++ r = litV (m : Int) 1 ++ (kidsT ⟨#[]⟩ t ++ r) := by
   rw [show kidsT ⟨#[]⟩ ((m : Int) :: t) = kidsT (⟨#[]⟩ ++ litV (m : Int) 1) t from rfl, jbA, jdN, ByteArray.append_assoc]
  rw [e, nqH]
  unfold kdN
  rw [jcX m _ (by omega), jbo _ _ (jal _ _).symm, jea _ _ _ (jal _ _).symm, ih, List.append_assoc]
  rfl
theorem jkZ {x : PgT} (h : pageB x = true) : pageV x = litV (if x.leaf = true then 1 else 2) 1 ++ (litV (x.keys.length : Int) 1 ++ (recsT x.leaf ⟨#[]⟩ ⟨#[]⟩ x.keys x.vals ++ (kidsT ⟨#[]⟩ x.kids ++ zerV (1700 - (bodyP x).size)))) := by
 rw [jdT, if_pos h]
 unfold bodyP
 rw [jdN, jdH, jeR]
 simp only [ByteArray.append_assoc]
theorem jcg {x : PgT} (h : pageB x = true) : (pageV x).size = 1700 := by
 have := (jd7 h).2
 rw [jdT, if_pos h, nqM, jdV]
 omega
theorem jgB {x : PgT} (h : ¬ pageB x = true) : pageV x = ⟨#[]⟩ := by rw [jdT, if_neg h]
structure RdPg where
 leaf : Bool
 many : Int
 g : ByteArray × Bool × List ByteArray × List ByteArray
 k : ByteArray × Bool × List Int
theorem jcf {x : PgT} (h : pageB x = true) : (oneV (pageV x) == 1) = x.leaf ∧ oneV (tkR (pageV x) 1) = x.keys.length ∧ tkB (tkR (pageV x) 1) (tkB (pageV x) false 1) 1 = false ∧
  (x.leaf = true → gpN true x.keys.length (tkR (tkR (pageV x) 1) 1) false ⟨#[]⟩ [] [] = (zerV (1700 - (bodyP x).size), false, x.keys, x.vals)) ∧
  (x.leaf = false → gpN false x.keys.length (tkR (tkR (pageV x) 1) 1) false ⟨#[]⟩ [] [] = (kidsT ⟨#[]⟩ x.kids ++ zerV (1700 - (bodyP x).size), false, x.keys, []) ∧ x.keys.length + 1 = x.kids.length ∧
   kdN (x.keys.length + 1) (kidsT ⟨#[]⟩ x.kids ++ zerV (1700 - (bodyP x).size)) false [] = (zerV (1700 - (bodyP x).size), false, x.kids) ∧ x.vals = []) ∧ (x.leaf = true → x.kids = []) := by
 obtain ⟨h1, h2, h3, h4, h5, h6⟩ := jbm h
 rw [jkZ h]
 have a1 : ∀ r : ByteArray, oneV (litV (if x.leaf = true then 1 else 2) 1 ++ r) = (if x.leaf = true then 1 else 2) := fun r => by
  cases x.leaf
  ·exact jcX 2 r (by omega)
  ·exact jcX 1 r (by omega)
 refine ⟨?_, ?_, ?_, fun hl => ?_, fun hl => ?_, fun hl => List.length_eq_zero_iff.1 (h3 hl).2.2⟩
 ·rw [a1]
  cases x.leaf <;> rfl
 ·rw [jbo _ _ (jal _ _).symm, jcX _ _ (by omega)]
 ·rw [jbo _ _ (jal _ _).symm, jea _ _ _ (jal _ _).symm, jea _ _ _ (jal _ _).symm]
 ·obtain ⟨v1, v2, v3⟩ := h3 hl
  have hk : x.kids = [] := List.length_eq_zero_iff.1 v3
  rw [jbo _ _ (jal _ _).symm, jbo _ _ (jal _ _).symm, hk, hl]
  have : kidsT ⟨#[]⟩ [] ++ zerV (1700 - (bodyP x).size) = zerV (1700 - (bodyP x).size) := jbA _
  rw [this, jjk x.keys x.vals [] [] _ ⟨#[]⟩ h1 v1 v2]
  rfl
 ·have hn : nodB x = true := by
   unfold pageB at h
   rw [hl] at h
   exact (andE h).2
  unfold nodB at hn
  obtain ⟨b0, hn⟩ := andE hn
  obtain ⟨b1, hn⟩ := andE hn
  obtain ⟨b2, b3⟩ := andE hn
  have b1 := nqI b1
  have b2 := nqI b2
  rw [jbo _ _ (jal _ _).symm, jbo _ _ (jal _ _).symm, hl]
  refine ⟨?_, b1, ?_, List.length_eq_zero_iff.1 b2⟩
  ·rw [jiW x.keys x.vals [] [] _ ⟨#[]⟩ h1]
   rfl
  ·rw [b1, jlJ x.kids [] _ fun k hk => List.all_eq_true.1 b3 k hk]
   rfl
theorem jpu {x y : PgT} (hx : pageB x = true) (hy : pageB y = true) (h : pageV x = pageV y) : x = y := by
 obtain ⟨a1, a2, a3, a4, a5, a6⟩ := jcf hx
 obtain ⟨b1, b2, b3, b4, b5, b6⟩ := jcf hy
 rw [h] at a1 a2 a3 a4 a5
 have hl : x.leaf = y.leaf := a1.symm.trans b1
 have hk : x.keys.length = y.keys.length := by omega
 obtain ⟨xl, xk, xv, xd⟩ := x
 obtain ⟨yl, yk, yv, yd⟩ := y
 dsimp only at *
 subst hl
 cases xl with
 | true =>
  have a4 := a4 rfl
  rw [hk] at a4
  have e := a4.symm.trans (b4 rfl)
  injection e with _ e
  injection e with _ e
  injection e with e1 e2
  rw [e1, e2, a6 rfl, b6 rfl]
 | false =>
  obtain ⟨c1, c2, c3, c4⟩ := a5 rfl
  obtain ⟨d1, d2, d3, d4⟩ := b5 rfl
  rw [hk] at c1
  have e := c1.symm.trans d1
  injection e with e0 e
  injection e with _ e
  injection e with e1 e2
  rw [e0, e1] at c3
  have e := c3.symm.trans d3
  injection e with _ e
  injection e with _ e
  rw [e1, c4, d4, e]
theorem jos {x : PgT} (hx : pageB x = true) : decP (pageV x) = x := by
 have h := @Classical.epsilon_spec _ (fun y : PgT => pageB y = true ∧ pageV x = pageV y) ⟨x, hx, rfl⟩
 exact (jpu hx h.1 h.2).symm
theorem jsV : jah Tryz.prog rib0 := ⟨jof, jsu, ok_pp, trivial⟩
theorem gR_t (r : ByteArray) : gR true r = t1R (t1R (tkR r 1)) := by unfold gR; rw [cond_true]
theorem gR_f (r : ByteArray) : gR false r = t1R (tkR r 1) := by unfold gR; rw [cond_false]
theorem gB_t (r : ByteArray) (b : Bool) : gB true r b = t1B (t1R (tkR r 1)) (t1B (tkR r 1) (tkB r b 1)) := by unfold gB; rw [cond_true]
theorem gB_f (r : ByteArray) (b : Bool) : gB false r b = t1B (tkR r 1) (tkB r b 1) := by unfold gB; rw [cond_false]
theorem bt1 (a : PV) : Nat.beq (List.length [a]) (1 * 1) = true := rfl
theorem jc1 (l : List ByteArray) (x : ByteArray) : (l ++ [x]).map PV.str = l.map PV.str ++ [PV.str x] := by rw [List.map_append]; rfl
theorem jeW (l : List Int) (x : Int) : (l ++ [x]).map (PV.int .i64) = l.map (PV.int .i64) ++ [PV.int .i64 x] := by rw [List.map_append]; rfl
theorem jaw {α : Type} (l : List α) (x : α) : (l ++ [x]).length = l.length + 1 := by rw [nqG, List.length_singleton]
theorem jpz (s r last : ByteArray) (m : Nat) (hr : r.size ≤ 2000000) (hm : m ≤ 300) :
  rdB brC Tryz.prog rib0 lp_gp LO_gp Tryz.f8 7 [] [aS s, aG0 2 false, aRd 4 r false, aG0 5 true, aS last, aI ((m + 1 : Nat) : Int)] = some (.inl [aS s, aG0 2 false, aRd 4 (gR true r) (gB true r false), aGL 5 [ukey r last] [gV r], aS (ukey r last), aI m]) := by
 have tree := jhR s r false true last ((m + 1 : Nat) : Int)
 revert tree; try delta zzav0; intro tree
 have w1 : IntKind.wrap .i64 (((m + 1 : Nat) : Int) - 1) = (m : Int) := by rw [wrapI (by omega) (by omega)]; omega
 have o1 := jaz r
 have o2 := jaz (tkR r 1)
 have o3 := jaz (t1R (tkR r 1))
 have z1 := ja8 r 1
 have z2 := ja8 (tkR r 1) 1
 have z3 := jgm (tkR r 1)
 have z4 := ja8 (t1R (tkR r 1)) 1
 have zk := jbc r last
 have h1 : tkR (tkR (tkR r 1) 1) (oneV (tkR r 1)).toNat = t1R (tkR r 1) := rfl
 have h2 : tkR (tkR (t1R (tkR r 1)) 1) (oneV (t1R (tkR r 1))).toNat = gR true r := (show _ = t1R (t1R (tkR r 1)) from rfl).trans (gR_t r).symm
 have h3 : tkS (tkR (t1R (tkR r 1)) 1) (oneV (t1R (tkR r 1))).toNat = gV r := rfl
 have h4 : tkB (tkR (t1R (tkR r 1)) 1) (tkB (t1R (tkR r 1)) (tkB (tkR (tkR r 1) 1) (tkB (tkR r 1) (tkB r false 1) 1) (oneV (tkR r 1)).toNat) 1) (oneV (t1R (tkR r 1))).toNat = gB true r false := (show _ = t1B (t1R (tkR r 1)) (t1B (tkR r 1) (tkB r false 1)) from rfl).trans (gB_t r false).symm
 have h5 : t1R (tkR r 1) = gR false r := (gR_f r).symm
 have h6 : tkB (tkR (tkR r 1) 1) (tkB (tkR r 1) (tkB r false 1) 1) (oneV (tkR r 1)).toNat = gB false r false := (show _ = t1B (tkR r 1) (tkB r false 1) from rfl).trans (gB_f r false).symm
 have zk2 : (last.extract 0 (min (oneV r).toNat last.size)).size + (tkS (tkR (tkR r 1) 1) (oneV (tkR r 1)).toNat).size ≤ 510 := by rw [← nqM]; exact zk
 have xz : 0 ≤ ((min (oneV r).toNat last.size : Nat) : Int) := by omega
 have xl : ((min (oneV r).toNat last.size : Nat) : Int) ≤ (last.size : Int) := by omega
 rw [minX (last.size : Int) (oneV r) (by omega) o1.1, nqF (min (oneV r).toNat (last.size : Int).toNat), nqF last.size, jhT, h1, h2, h3, h4, w1] at tree
 simp (disch := omega) only [dT, decide_true, Bool.and_true, Bool.true_and, Bool.not_false, bt1, brT, brF] at tree
 exact tree
theorem jnQ (s r last : ByteArray) (m : Nat) (hr : r.size ≤ 2000000) (hm : m ≤ 300) :
  rdB brC Tryz.prog rib0 lp_gp LO_gp Tryz.f8 7 [] [aS s, aG0 2 false, aRd 4 r false, aG0 5 false, aS last, aI ((m + 1 : Nat) : Int)] = some (.inl [aS s, aG0 2 false, aRd 4 (gR false r) (gB false r false), aGN 5 [ukey r last], aS (ukey r last), aI m]) := by
 have tree := jhR s r false false last ((m + 1 : Nat) : Int)
 revert tree; try delta zzav0; intro tree
 have w1 : IntKind.wrap .i64 (((m + 1 : Nat) : Int) - 1) = (m : Int) := by rw [wrapI (by omega) (by omega)]; omega
 have o1 := jaz r
 have o2 := jaz (tkR r 1)
 have o3 := jaz (t1R (tkR r 1))
 have z1 := ja8 r 1
 have z2 := ja8 (tkR r 1) 1
 have z3 := jgm (tkR r 1)
 have z4 := ja8 (t1R (tkR r 1)) 1
 have zk := jbc r last
 have h1 : tkR (tkR (tkR r 1) 1) (oneV (tkR r 1)).toNat = t1R (tkR r 1) := rfl
 have h2 : tkR (tkR (t1R (tkR r 1)) 1) (oneV (t1R (tkR r 1))).toNat = gR true r := (show _ = t1R (t1R (tkR r 1)) from rfl).trans (gR_t r).symm
 have h3 : tkS (tkR (t1R (tkR r 1)) 1) (oneV (t1R (tkR r 1))).toNat = gV r := rfl
 have h4 : tkB (tkR (t1R (tkR r 1)) 1) (tkB (t1R (tkR r 1)) (tkB (tkR (tkR r 1) 1) (tkB (tkR r 1) (tkB r false 1) 1) (oneV (tkR r 1)).toNat) 1) (oneV (t1R (tkR r 1))).toNat = gB true r false := (show _ = t1B (t1R (tkR r 1)) (t1B (tkR r 1) (tkB r false 1)) from rfl).trans (gB_t r false).symm
 have h5 : t1R (tkR r 1) = gR false r := (gR_f r).symm
 have h6 : tkB (tkR (tkR r 1) 1) (tkB (tkR r 1) (tkB r false 1) 1) (oneV (tkR r 1)).toNat = gB false r false := (show _ = t1B (tkR r 1) (tkB r false 1) from rfl).trans (gB_f r false).symm
 have zk2 : (last.extract 0 (min (oneV r).toNat last.size)).size + (tkS (tkR (tkR r 1) 1) (oneV (tkR r 1)).toNat).size ≤ 510 := by rw [← nqM]; exact zk
 have xz : 0 ≤ ((min (oneV r).toNat last.size : Nat) : Int) := by omega
 have xl : ((min (oneV r).toNat last.size : Nat) : Int) ≤ (last.size : Int) := by omega
 rw [minX (last.size : Int) (oneV r) (by omega) o1.1, nqF (min (oneV r).toNat (last.size : Int).toNat), nqF last.size, jhT, h1, h5, h6, w1] at tree
 simp (disch := omega) only [dT, decide_true, Bool.and_true, Bool.true_and, Bool.not_false, bt1, brT, brF] at tree
 exact tree
theorem jqC (s r last : ByteArray) (ks vs : List ByteArray) (m : Nat) (hr : r.size ≤ 2000000) (hl : ks.length ≤ 300) (hv : vs.length ≤ 300) (hm : m ≤ 300) :
  rdB brC Tryz.prog rib0 lp_gp LO_gp Tryz.f8 7 [] [aS s, aG0 2 false, aRd 4 r false, aGL 5 ks vs, aS last, aI ((m + 1 : Nat) : Int)] = some (.inl [aS s, aG0 2 false, aRd 4 (gR true r) (gB true r false), aGL 5 (ks ++ [ukey r last]) (vs ++ [gV r]), aS (ukey r last), aI m]) := by
 have tree := jg5 s r false ks vs last ((m + 1 : Nat) : Int)
 revert tree; try delta zzat0; intro tree
 have w1 : IntKind.wrap .i64 (((m + 1 : Nat) : Int) - 1) = (m : Int) := by rw [wrapI (by omega) (by omega)]; omega
 have o1 := jaz r
 have o2 := jaz (tkR r 1)
 have o3 := jaz (t1R (tkR r 1))
 have z1 := ja8 r 1
 have z2 := ja8 (tkR r 1) 1
 have z3 := jgm (tkR r 1)
 have z4 := ja8 (t1R (tkR r 1)) 1
 have zk := jbc r last
 have h1 : tkR (tkR (tkR r 1) 1) (oneV (tkR r 1)).toNat = t1R (tkR r 1) := rfl
 have h2 : tkR (tkR (t1R (tkR r 1)) 1) (oneV (t1R (tkR r 1))).toNat = gR true r := (show _ = t1R (t1R (tkR r 1)) from rfl).trans (gR_t r).symm
 have h3 : tkS (tkR (t1R (tkR r 1)) 1) (oneV (t1R (tkR r 1))).toNat = gV r := rfl
 have h4 : tkB (tkR (t1R (tkR r 1)) 1) (tkB (t1R (tkR r 1)) (tkB (tkR (tkR r 1) 1) (tkB (tkR r 1) (tkB r false 1) 1) (oneV (tkR r 1)).toNat) 1) (oneV (t1R (tkR r 1))).toNat = gB true r false := (show _ = t1B (t1R (tkR r 1)) (t1B (tkR r 1) (tkB r false 1)) from rfl).trans (gB_t r false).symm
 have h5 : t1R (tkR r 1) = gR false r := (gR_f r).symm
 have h6 : tkB (tkR (tkR r 1) 1) (tkB (tkR r 1) (tkB r false 1) 1) (oneV (tkR r 1)).toNat = gB false r false := (show _ = t1B (tkR r 1) (tkB r false 1) from rfl).trans (gB_f r false).symm
 have zk2 : (last.extract 0 (min (oneV r).toNat last.size)).size + (tkS (tkR (tkR r 1) 1) (oneV (tkR r 1)).toNat).size ≤ 510 := by rw [← nqM]; exact zk
 have xz : 0 ≤ ((min (oneV r).toNat last.size : Nat) : Int) := by omega
 have xl : ((min (oneV r).toNat last.size : Nat) : Int) ≤ (last.size : Int) := by omega
 rw [minX (last.size : Int) (oneV r) (by omega) o1.1, nqF (min (oneV r).toNat (last.size : Int).toNat), nqF last.size, jhT, h1, h2, h3, h4, w1] at tree
 simp (disch := omega) only [dT, decide_true, Bool.and_true, Bool.true_and, Bool.not_false, bt1, brT, brF] at tree
 unfold aGL cLs
 rw [jc1, jc1, jaw, jaw]
 exact tree
theorem jrd (s r last : ByteArray) (ks : List ByteArray) (m : Nat) (hr : r.size ≤ 2000000) (hl : ks.length ≤ 300) (hm : m ≤ 300) :
  rdB brC Tryz.prog rib0 lp_gp LO_gp Tryz.f8 7 [] [aS s, aG0 2 false, aRd 4 r false, aGN 5 ks, aS last, aI ((m + 1 : Nat) : Int)] = some (.inl [aS s, aG0 2 false, aRd 4 (gR false r) (gB false r false), aGN 5 (ks ++ [ukey r last]), aS (ukey r last), aI m]) := by
 have tree := jhG s r false ks last ((m + 1 : Nat) : Int)
 revert tree; try delta zzap0; intro tree
 have w1 : IntKind.wrap .i64 (((m + 1 : Nat) : Int) - 1) = (m : Int) := by rw [wrapI (by omega) (by omega)]; omega
 have o1 := jaz r
 have o2 := jaz (tkR r 1)
 have o3 := jaz (t1R (tkR r 1))
 have z1 := ja8 r 1
 have z2 := ja8 (tkR r 1) 1
 have z3 := jgm (tkR r 1)
 have z4 := ja8 (t1R (tkR r 1)) 1
 have zk := jbc r last
 have h1 : tkR (tkR (tkR r 1) 1) (oneV (tkR r 1)).toNat = t1R (tkR r 1) := rfl
 have h2 : tkR (tkR (t1R (tkR r 1)) 1) (oneV (t1R (tkR r 1))).toNat = gR true r := (show _ = t1R (t1R (tkR r 1)) from rfl).trans (gR_t r).symm
 have h3 : tkS (tkR (t1R (tkR r 1)) 1) (oneV (t1R (tkR r 1))).toNat = gV r := rfl
 have h4 : tkB (tkR (t1R (tkR r 1)) 1) (tkB (t1R (tkR r 1)) (tkB (tkR (tkR r 1) 1) (tkB (tkR r 1) (tkB r false 1) 1) (oneV (tkR r 1)).toNat) 1) (oneV (t1R (tkR r 1))).toNat = gB true r false := (show _ = t1B (t1R (tkR r 1)) (t1B (tkR r 1) (tkB r false 1)) from rfl).trans (gB_t r false).symm
 have h5 : t1R (tkR r 1) = gR false r := (gR_f r).symm
 have h6 : tkB (tkR (tkR r 1) 1) (tkB (tkR r 1) (tkB r false 1) 1) (oneV (tkR r 1)).toNat = gB false r false := (show _ = t1B (tkR r 1) (tkB r false 1) from rfl).trans (gB_f r false).symm
 have zk2 : (last.extract 0 (min (oneV r).toNat last.size)).size + (tkS (tkR (tkR r 1) 1) (oneV (tkR r 1)).toNat).size ≤ 510 := by rw [← nqM]; exact zk
 have xz : 0 ≤ ((min (oneV r).toNat last.size : Nat) : Int) := by omega
 have xl : ((min (oneV r).toNat last.size : Nat) : Int) ≤ (last.size : Int) := by omega
 rw [minX (last.size : Int) (oneV r) (by omega) o1.1, nqF (min (oneV r).toNat (last.size : Int).toNat), nqF last.size, jhT, h1, h5, h6, w1] at tree
 simp (disch := omega) only [dT, decide_true, Bool.and_true, Bool.true_and, Bool.not_false, bt1, brT, brF] at tree
 unfold aGN cLs
 rw [jc1, jaw]
 exact tree
theorem gR_sz (lf : Bool) (r : ByteArray) : (gR lf r).size ≤ r.size := by
 have h1 := ja8 r 1
 have h2 := jgm (tkR r 1)
 have h3 := jgm (t1R (tkR r 1))
 cases lf
 ·rw [gR_f]
  omega
 ·rw [gR_t]
  omega
theorem jqY (s : ByteArray) : ∀ (m : Nat) (r : ByteArray) (b : Bool) (last : ByteArray) (ks vs : List ByteArray), r.size ≤ 2000000 → ks.length + m ≤ 300 → vs.length + m ≤ 300 →
  LoopsTo (rdB brC Tryz.prog rib0 lp_gp LO_gp Tryz.f8 7 []) [aS s, aG0 2 false, aRd 4 r b, aGL 5 ks vs, aS last, aI m] (.exit 0, [aS s, aG0 2 false, aRd 4 (gpN true m r b last ks vs).1 (gpN true m r b last ks vs).2.1, aGL 5 (gpN true m r b last ks vs).2.2.1 (gpN true m r b last ks vs).2.2.2]) := by
 intro m
 induction m with
 | zero =>
  intro r b last ks vs hr hl hv
  refine .done _ _ ((jg5 s r b ks vs last _).trans ?_)
  try delta zzat0
  rw [dF (show ¬ ((0 : Nat) : Int) > 0 by omega)]
  rfl
 | succ m ih =>
  intro r b last ks vs hr hl hv
  unfold gpN
  cases b with
  | true =>
   rw [cond_true]
   refine .done _ _ ((jg5 s r true ks vs last _).trans ?_)
   try delta zzat0
   rw [dT (show ((m + 1 : Nat) : Int) > 0 by omega)]
   rfl
  | false =>
   rw [cond_false, cond_true]
   have := ih (gR true r) (gB true r false) (ukey r last) (ks ++ [ukey r last]) (vs ++ [gV r]) (Nat.le_trans (gR_sz _ r) hr) (by rw [jaw]; omega) (by rw [jaw]; omega)
   exact .step _ _ _ (jqC s r last ks vs m hr (by omega) (by omega) (by omega)) this
theorem jrb (s : ByteArray) : ∀ (m : Nat) (r : ByteArray) (b : Bool) (last : ByteArray) (ks vs : List ByteArray), r.size ≤ 2000000 → ks.length + m ≤ 300 →
  LoopsTo (rdB brC Tryz.prog rib0 lp_gp LO_gp Tryz.f8 7 []) [aS s, aG0 2 false, aRd 4 r b, aGN 5 ks, aS last, aI m] (.exit 0, [aS s, aG0 2 false, aRd 4 (gpN false m r b last ks vs).1 (gpN false m r b last ks vs).2.1, aGN 5 (gpN false m r b last ks vs).2.2.1]) := by
 intro m
 induction m with
 | zero =>
  intro r b last ks vs hr hl
  refine .done _ _ ((jhG s r b ks last _).trans ?_)
  try delta zzap0
  rw [dF (show ¬ ((0 : Nat) : Int) > 0 by omega)]
  rfl
 | succ m ih =>
  intro r b last ks vs hr hl
  unfold gpN
  cases b with
  | true =>
   rw [cond_true]
   refine .done _ _ ((jhG s r true ks last _).trans ?_)
   try delta zzap0
   rw [dT (show ((m + 1 : Nat) : Int) > 0 by omega)]
   rfl
  | false =>
   rw [cond_false, cond_false]
   have := ih (gR false r) (gB false r false) (ukey r last) (ks ++ [ukey r last]) vs (Nat.le_trans (gR_sz _ r) hr) (by rw [jaw]; omega)
   exact .step _ _ _ (jrd s r last ks m hr (by omega) (by omega)) this
theorem jrf (s r : ByteArray) (lf : Bool) (m : Nat) (hr : r.size ≤ 2000000) (hm : m + 1 ≤ 255) :
  LoopsTo (rdB brC Tryz.prog rib0 lp_gp LO_gp Tryz.f8 7 []) [aS s, aG0 2 false, aRd 4 r false, aG0 5 lf, aS ⟨#[]⟩, aI ((m + 1 : Nat) : Int)] (.exit 0, [aS s, aG0 2 false, aRd 4 (gpN lf (m + 1) r false ⟨#[]⟩ [] []).1 (gpN lf (m + 1) r false ⟨#[]⟩ [] []).2.1, bif lf then aGL 5 (gpN lf (m + 1) r false ⟨#[]⟩ [] []).2.2.1 (gpN lf (m + 1) r false ⟨#[]⟩ [] []).2.2.2 else aGN 5 (gpN lf (m + 1) r false ⟨#[]⟩ [] []).2.2.1]) := by
 cases lf with
 | true =>
  have := jqY s m (gR true r) (gB true r false) (ukey r ⟨#[]⟩) [ukey r ⟨#[]⟩] [gV r] (Nat.le_trans (gR_sz _ r) hr) (by show 1 + m ≤ 300; omega) (by show 1 + m ≤ 300; omega)
  have e : gpN true (m + 1) r false ⟨#[]⟩ [] [] = gpN true m (gR true r) (gB true r false) (ukey r ⟨#[]⟩) [ukey r ⟨#[]⟩] [gV r] := rfl
  rw [e, cond_true]
  exact .step _ _ _ (jpz s r ⟨#[]⟩ m hr (by omega)) this
 | false =>
  have := jrb s m (gR false r) (gB false r false) (ukey r ⟨#[]⟩) [ukey r ⟨#[]⟩] [] (Nat.le_trans (gR_sz _ r) hr) (by show 1 + m ≤ 300; omega)
  have e : gpN false (m + 1) r false ⟨#[]⟩ [] [] = gpN false m (gR false r) (gB false r false) (ukey r ⟨#[]⟩) [ukey r ⟨#[]⟩] [] := rfl
  rw [e, cond_false]
  exact .step _ _ _ (jnQ s r ⟨#[]⟩ m hr (by omega)) this
theorem gV_sz (r : ByteArray) : (gV r).size ≤ 255 := jrJ _
theorem jeV {P : ByteArray → Prop} {l : List ByteArray} {x : ByteArray} (h : ∀ k ∈ l, P k) (hx : P x) : ∀ k ∈ l ++ [x], P k := fun k hk => by
 rcases nqD.1 hk with hk | hk
 ·exact h k hk
 ·rw [List.mem_singleton.1 hk]; exact hx
theorem jok (lf : Bool) : ∀ (n : Nat) (r : ByteArray) (b : Bool) (last : ByteArray) (ks vs : List ByteArray), (∀ k ∈ ks, k.size ≤ 510) → (∀ v ∈ vs, v.size ≤ 255) →
  (∀ k ∈ (gpN lf n r b last ks vs).2.2.1, k.size ≤ 510) ∧ (∀ v ∈ (gpN lf n r b last ks vs).2.2.2, v.size ≤ 255) ∧ (gpN lf n r b last ks vs).2.2.1.length ≤ ks.length + n ∧ (gpN lf n r b last ks vs).2.2.2.length ≤ vs.length + n ∧ (gpN lf n r b last ks vs).1.size ≤ r.size
 | 0, r, b, last, ks, vs, h1, h2 => ⟨h1, h2, Nat.le_refl _, Nat.le_refl _, Nat.le_refl _⟩
 | n + 1, r, b, last, ks, vs, h1, h2 => by
  unfold gpN
  cases b with
  | true => exact ⟨h1, h2, Nat.le_add_right _ _, Nat.le_add_right _ _, Nat.le_refl _⟩
  | false =>
   rw [cond_false]
   have hv : ∀ v ∈ (bif lf then vs ++ [gV r] else vs), v.size ≤ 255 := by
    cases lf
    ·exact h2
    ·exact jeV h2 (gV_sz r)
   have hl : (bif lf then vs ++ [gV r] else vs).length ≤ vs.length + 1 := by
    cases lf
    ·exact Nat.le_add_right _ _
    ·rw [cond_true, jaw]; exact Nat.le_refl _
   obtain ⟨a1, a2, a3, a4, a5⟩ := jok lf n (gR lf r) (gB lf r false) (ukey r last) (ks ++ [ukey r last]) _ (jeV h1 (jbc r last)) hv
   rw [jaw] at a3
   exact ⟨a1, a2, by omega, by omega, Nat.le_trans a5 (gR_sz lf r)⟩
theorem jlO : ∀ (n : Nat) (r : ByteArray) (b : Bool) (l : List Int), (∀ k ∈ l, 0 ≤ k ∧ k ≤ 255) → (∀ k ∈ (kdN n r b l).2.2, 0 ≤ k ∧ k ≤ 255) ∧ (kdN n r b l).2.2.length = l.length + n
 | 0, r, b, l, h => ⟨h, rfl⟩
 | n + 1, r, b, l, h => by
  obtain ⟨a1, a2⟩ := jlO n (tkR r 1) (tkB r b 1) (l ++ [oneV r]) fun k hk => by
   rcases nqD.1 hk with hk | hk
   ·exact h k hk
   ·rw [List.mem_singleton.1 hk]; exact jaz r
  unfold kdN
  rw [jaw] at a2
  exact ⟨a1, by omega⟩
theorem jeB {l : List ByteArray} {m : Nat} (h : ∀ k ∈ l, k.size ≤ m) (hl : l.length ≤ 1000) (hm : m ≤ 1000) : shL l := ⟨by omega, fun k hk => by have := h k hk; omega⟩
theorem jjf {l : List Int} (h : ∀ k ∈ l, 0 ≤ k ∧ k ≤ 255) (hl : l.length ≤ 1000) : shI l := ⟨by omega, fun k hk => by have := h k hk; omega⟩
theorem ne_pg {s : ByteArray} (x : PgT) (hno : ¬ isPgS s) (hs : s.size = 1700) : (ByteArray.toList (pageV x) == ByteArray.toList s) = false := by
 refine beq_eq_false_iff_ne.2 fun e => ?_
 have e : pageV x = s := ByteArray.ext (Array.ext' (by rw [← ByteArray.toList_eq, ← ByteArray.toList_eq]; exact e))
 by_cases hl : pageB x = true
 ·exact hno ⟨x, hl, e.symm⟩
 ·rw [jgB hl] at e
  rw [← e] at hs
  cases hs
theorem bt1i (a : Int) : Nat.beq (List.length [PV.int .i64 a]) (1 * 1) = true := rfl
theorem jp2 (s : ByteArray) (M : Nat) (hM : M ≤ 256) : ∀ (j i : Nat) (r : ByteArray) (b : Bool) (cs : List Int), j + i = M → r.size ≤ 2000000 → cs.length ≤ i →
  LoopsTo (rdB brC Tryz.prog rib0 lp_gp LO_gp Tryz.f8 18 []) [aS s, aG0 2 false, aRd 4 r b, aGK 5 (.pv .nils) cs, aI M, aI i] (.exit 2, [aS s, aG0 2 false, aRd 4 (kdN j r b cs).1 (kdN j r b cs).2.1, aGK 5 (.pv .nils) (kdN j r b cs).2.2]) := by
 intro j
 induction j with
 | zero =>
  intro i r b cs hj hr hc
  refine .done _ _ ((jlw s r b cs M i).trans ?_)
  rw [dF (show ¬ (i : Int) < (M : Int) by omega)]
  rfl
 | succ j ih =>
  intro i r b cs hj hr hc
  have tree := jlw s r b cs M i
  simp (disch := omega) only [dT, decide_true, bt1i, wrap1, Bool.and_true, Bool.true_and] at tree
  have := ih (i + 1) (tkR r 1) (tkB r b 1) (cs ++ [oneV r]) (by omega) (Nat.le_trans (ja8 _ _) hr) (by rw [jaw]; omega)
  unfold aGK cLi at this
  rw [jeW, jaw] at this
  unfold kdN
  exact .step _ _ _ tree this
theorem jp4 (s : ByteArray) (m : Nat) (hM : m + 1 ≤ 256) (r : ByteArray) (b : Bool) (hr : r.size ≤ 2000000) :
  LoopsTo (rdB brC Tryz.prog rib0 lp_gp LO_gp Tryz.f8 18 []) [aS s, aG0 2 false, aRd 4 r b, aG0 5 false, aI ((m + 1 : Nat) : Int), aI 0] (.exit 2, [aS s, aG0 2 false, aRd 4 (kdN (m + 1) r b []).1 (kdN (m + 1) r b []).2.1, aGK 5 (.pv .nils) (kdN (m + 1) r b []).2.2]) := by
 have tree := jqN s r b ((m + 1 : Nat) : Int) 0
 simp (disch := omega) only [dT, decide_true, Bool.and_true, Bool.true_and] at tree
 have := jp2 s (m + 1) hM m 1 (tkR r 1) (tkB r b 1) [oneV r] (by omega) (Nat.le_trans (ja8 _ _) hr) (by simp)
 exact .step _ _ _ tree this
theorem jqm (s : ByteArray) (ks : List ByteArray) (M : Nat) (hM : M ≤ 256) : ∀ (j i : Nat) (r : ByteArray) (b : Bool) (cs : List Int), j + i = M → r.size ≤ 2000000 → cs.length ≤ i →
  LoopsTo (rdB brC Tryz.prog rib0 lp_gp LO_gp Tryz.f8 18 []) [aS s, aG0 2 false, aRd 4 r b, aGK 5 (cLs ks) cs, aI M, aI i] (.exit 2, [aS s, aG0 2 false, aRd 4 (kdN j r b cs).1 (kdN j r b cs).2.1, aGK 5 (cLs ks) (kdN j r b cs).2.2]) := by
 intro j
 induction j with
 | zero =>
  intro i r b cs hj hr hc
  refine .done _ _ ((jlR s r b ks cs M i).trans ?_)
  rw [dF (show ¬ (i : Int) < (M : Int) by omega)]
  rfl
 | succ j ih =>
  intro i r b cs hj hr hc
  have tree := jlR s r b ks cs M i
  simp (disch := omega) only [dT, decide_true, bt1i, wrap1, Bool.and_true, Bool.true_and] at tree
  have := ih (i + 1) (tkR r 1) (tkB r b 1) (cs ++ [oneV r]) (by omega) (Nat.le_trans (ja8 _ _) hr) (by rw [jaw]; omega)
  unfold aGK cLi at this
  rw [jeW, jaw] at this
  unfold kdN
  exact .step _ _ _ tree this
theorem jqb (s : ByteArray) (ks : List ByteArray) (m : Nat) (hM : m + 1 ≤ 256) (r : ByteArray) (b : Bool) (hr : r.size ≤ 2000000) :
  LoopsTo (rdB brC Tryz.prog rib0 lp_gp LO_gp Tryz.f8 18 []) [aS s, aG0 2 false, aRd 4 r b, aGN 5 ks, aI ((m + 1 : Nat) : Int), aI 0] (.exit 2, [aS s, aG0 2 false, aRd 4 (kdN (m + 1) r b []).1 (kdN (m + 1) r b []).2.1, aGK 5 (cLs ks) (kdN (m + 1) r b []).2.2]) := by
 have tree := jp5 s r b ks ((m + 1 : Nat) : Int) 0
 simp (disch := omega) only [dT, decide_true, Bool.and_true, Bool.true_and] at tree
 have := jqm s ks (m + 1) hM m 1 (tkR r 1) (tkB r b 1) [oneV r] (by omega) (Nat.le_trans (ja8 _ _) hr) (by simp)
 exact .step _ _ _ tree this
theorem jqU : ∀ b ∈ jav (ja5 Tryz.f8), jbb Tryz.prog (tabL rib0) (OL lp_gp) Tryz.f8.ntmps (pbOf []) LO_gp b := by
 refine jca [7, 18] (by kernel_rfl) (fun k hk => by
   simp only [List.mem_cons, List.not_mem_nil, or_false] at hk
   rcases hk with rfl | rfl <;> kernel_rfl) fun k hk => ?_
 simp only [List.mem_cons, List.not_mem_nil, or_false] at hk
 rcases hk with rfl | rfl
 ·refine ⟨jap (by kernel_rfl), ?_⟩
  intro ls e ls' hl
  replace hl : pickA (jka ls) = some (e, ls') := hl
  unfold jka at hl
  split at hl
  ·rename_i s x y r b z lf last n
   have hcore : (Nat.beq x 8192 && Nat.beq y 16384 && Nat.beq z 20480 && (decide (n ≤ 0) || b)) = false → (Nat.beq x 8192 && Nat.beq y 16384 && Nat.beq z 20480 && decide (0 ≤ n) && decide (n ≤ 255) && holds (r.size ≤ 2000000) && Nat.beq last.size 0) = true →
     LoopsTo (rdB brC Tryz.prog rib0 lp_gp LO_gp Tryz.f8 7 []) [aS s, ((.ptr x 0, some (.box [.pv (.bool false), .pv .nils, .pv .nils, .pv .nils])) : AV × Option Ob), (.ptr y 0, some (.box [.pv (.str r), .pv (.bool b)])), (.ptr z 0, some (.box [.pv (.bool lf), .pv .nils, .pv .nils, .pv .nils])), aS last, aI n] (.exit 0, [aS s, aG0 2 false, aRd 4 (gpN lf n.toNat r b ⟨#[]⟩ [] []).1 (gpN lf n.toNat r b ⟨#[]⟩ [] []).2.1, bif lf then aGL 5 (gpN lf n.toNat r b ⟨#[]⟩ [] []).2.2.1 (gpN lf n.toNat r b ⟨#[]⟩ [] []).2.2.2 else aGN 5 (gpN lf n.toNat r b ⟨#[]⟩ [] []).2.2.1]) := fun hn hc => by
    obtain ⟨hc, k6⟩ := andE hc
    obtain ⟨hc, k5⟩ := andE hc
    obtain ⟨hc, k4⟩ := andE hc
    obtain ⟨hc, k3⟩ := andE hc
    have k2' := hc
    obtain ⟨hc, k2⟩ := andE hc
    obtain ⟨k0, k1⟩ := andE hc
    rw [k2', Bool.true_and, Bool.or_eq_false_iff, decide_eq_false_iff_not] at hn
    obtain ⟨hn0, hb⟩ := hn
    have k4 := nqI k4
    obtain ⟨m, rfl⟩ : ∃ m : Nat, n = ((m + 1 : Nat) : Int) := ⟨(n - 1).toNat, by omega⟩
    obtain rfl := nqB k0
    obtain rfl := nqB k1
    obtain rfl := nqB k2
    obtain rfl := jcm k6
    subst hb
    rw [nqF]
    exact jrf s r lf m (jaj k5) (by omega)
   rcases jsk hl with ⟨hc, he⟩ | ⟨hn, hc, he⟩ | ⟨hn, hn2, hc, he⟩
   ·cases he
    obtain ⟨hc, k3⟩ := andE hc
    obtain ⟨hc, k2⟩ := andE hc
    obtain ⟨k0, k1⟩ := andE hc
    obtain rfl := nqB k0
    obtain rfl := nqB k1
    obtain rfl := nqB k2
    refine .done _ _ ((jhR s r b lf last n).trans ?_)
    try delta zzav0
    rw [Bool.or_eq_true, decide_eq_true_eq] at k3
    rcases k3 with k3 | k3
    ·rw [dF (show ¬ n > 0 by omega)]
     rfl
    ·rw [k3]
     cases decide (n > 0) <;> rfl
   ·cases he
    obtain ⟨hc2, k7⟩ := andE hc
    subst k7
    exact hcore hn hc2
   ·cases he
    obtain ⟨hc2, k7⟩ := andE hc
    have k7 : lf = false := by cases lf <;> first | rfl | cases k7
    subst k7
    exact hcore hn hc2
  ·cases hl
 ·refine ⟨jap (by kernel_rfl), ?_⟩
  intro ls e ls' hl
  replace hl : pickA (jg6 ls) = some (e, ls') := hl
  unfold jg6 at hl
  split at hl
  ·rename_i s x y r b z lf m i
   obtain ⟨hc, he⟩ := pick1 hl
   cases he
   obtain ⟨hc, k7⟩ := andE hc
   obtain ⟨hc, k6⟩ := andE hc
   obtain ⟨hc, k5⟩ := andE hc
   obtain ⟨hc, k4⟩ := andE hc
   obtain ⟨hc, k3⟩ := andE hc
   obtain ⟨hc, k2⟩ := andE hc
   obtain ⟨k0, k1⟩ := andE hc
   obtain rfl := nqB k1
   obtain rfl := nqB k2
   obtain rfl := nqB k3
   have k0 : lf = false := by cases lf <;> first | rfl | cases k0
   subst k0
   have k4 := nqI k4
   have k5 := nqI k5
   obtain ⟨j, rfl⟩ : ∃ j : Nat, m = ((j + 1 : Nat) : Int) := ⟨(m - 1).toNat, by omega⟩
   rw [eq_of_beq k7, nqF]
   exact jp4 s j (by omega) r b (jaj k6)
  ·rename_i s x y r b z lf e n l m i
   obtain ⟨hc, he⟩ := pick1 hl
   cases he
   obtain ⟨hc, k9⟩ := andE hc
   obtain ⟨hc, k8⟩ := andE hc
   obtain ⟨hc, k7⟩ := andE hc
   obtain ⟨hc, k6⟩ := andE hc
   obtain ⟨hc, k5⟩ := andE hc
   obtain ⟨hc, k4⟩ := andE hc
   obtain ⟨hc, k3⟩ := andE hc
   obtain ⟨hc, k2⟩ := andE hc
   obtain ⟨k0, k1⟩ := andE hc
   obtain rfl := nqB k1
   obtain rfl := nqB k2
   obtain rfl := nqB k3
   obtain rfl := nqB k4
   obtain ⟨t, q_t, h_t⟩ := jao k5
   injection q_t with qa qb
   subst qa
   subst qb
   have k0 : lf = false := by cases lf <;> first | rfl | cases k0
   subst k0
   have k6 := nqI k6
   have k7 := nqI k7
   obtain ⟨j, rfl⟩ : ∃ j : Nat, m = ((j + 1 : Nat) : Int) := ⟨(m - 1).toNat, by omega⟩
   rw [eq_of_beq k9, nqF]
   exact jqb s t j (by omega) r b (jaj k8)
  ·cases hl
theorem pgI {x : PgT} (h : shPg x) : isPg (PV.agg [PV.bool x.leaf, PV.sl x.keys.length (x.keys.map PV.str), PV.sl x.vals.length (x.vals.map PV.str), PV.sl x.kids.length (x.kids.map (PV.int .i64))]) = true := je7 h
theorem pgA (x : PgT) : asPg (PV.agg [PV.bool x.leaf, PV.sl x.keys.length (x.keys.map PV.str), PV.sl x.vals.length (x.vals.map PV.str), PV.sl x.kids.length (x.kids.map (PV.int .i64))]) = x := jb5 x
theorem jjK {x : PgT} (h : pageB x = true) : shPg x ∧ smK x.keys := by
 obtain ⟨h1, h2, h3, h4, h5, h6⟩ := jbm h
 refine ⟨⟨jeB (m := 1000) (fun k hk => by have := h1 k hk; omega) (by omega) (by omega), ?_, jjf (fun k hk => by have := jh1 (List.all_eq_true.1 h6 k hk); omega) (by omega)⟩, fun k hk => by have := h1 k hk; omega⟩
 cases hl : x.leaf with
 | true =>
  obtain ⟨v1, v2, v3⟩ := h3 hl
  exact jeB (m := 1000) (fun k hk => by have := v2 k hk; omega) (by omega) (by omega)
 | false =>
  have hv := (jcf h).2.2.2.2.1 hl
  rw [hv.2.2.2]
  exact ⟨Nat.zero_le _, fun _ h => by cases h⟩
theorem jiI {x : PgT} : (ByteArray.toList (pageV x) == ByteArray.toList (pageV x)) = true := beq_self_eq_true _
theorem jli {l : List ByteArray} (h : ∀ k ∈ l, k.size ≤ 510) : smK l := fun k hk => by have := h k hk; omega
theorem gp_no (s : ByteArray) (hno : ¬ isPgS s) : q_gp brC s = some (.tup [.agg [.pv (.bool false), .pv .nils, .pv .nils, .pv .nils], cB false], []) := by
 have tree := jpq s
 revert tree; try delta zzax2; intro tree
 revert tree; try delta zzax1; intro tree
 revert tree; try delta zzax0; intro tree
 by_cases hs : s.size = 1700
 ·have hb : ((s.size : Int) != 1700) = false := by rw [hs]; rfl
  have z1 := ja8 s 1
  have z2 := ja8 (tkR s 1) 1
  have o1 := jaz s
  have o2 := jaz (tkR s 1)
  have o3 := jaz (tkR (tkR s 1) 1)
  obtain ⟨g1, g2, g3, g4, g5⟩ := jok true (oneV (tkR s 1)).toNat (tkR (tkR s 1) 1) (tkB (tkR s 1) (tkB s false 1) 1) ⟨#[]⟩ [] [] (fun _ h => by cases h) (fun _ h => by cases h)
  obtain ⟨f1, f2, f3, f4, f5⟩ := jok false (oneV (tkR s 1)).toNat (tkR (tkR s 1) 1) (tkB (tkR s 1) (tkB s false 1) 1) ⟨#[]⟩ [] [] (fun _ h => by cases h) (fun _ h => by cases h)
  rw [hb, dT (show s.size ≤ 2000000 by omega), dT (show (tkR s 1).size ≤ 2000000 by omega), jad (show (tkR (tkR s 1) 1).size ≤ 2000000 by omega), dT o2.1, dT o2.2] at tree
  generalize hX : gpN true (oneV (tkR s 1)).toNat (tkR (tkR s 1) 1) (tkB (tkR s 1) (tkB s false 1) 1) ⟨#[]⟩ [] [] = X at g1 g2 g3 g4 g5 tree
  generalize hY : gpN false (oneV (tkR s 1)).toNat (tkR (tkR s 1) 1) (tkB (tkR s 1) (tkB s false 1) 1) ⟨#[]⟩ [] [] = Y at f1 f2 f3 f4 f5 tree
  rw [List.length_nil] at g3 g4 f3 f4
  have w1 : IntKind.wrap .i64 ((Y.2.2.1.length : Int) + 1) = ((Y.2.2.1.length + 1 : Nat) : Int) := wrap1 (by omega)
  rw [w1, nqF] at tree
  obtain ⟨e1, e2⟩ := jlO (Y.2.2.1.length + 1) Y.1 Y.2.1 [] (fun _ h => by cases h)
  generalize hZ : kdN (Y.2.2.1.length + 1) Y.1 Y.2.1 [] = Z at e1 e2 tree
  rw [List.length_nil] at e2
  have s1 : shPg ⟨false, [], [], [oneV (tkR (tkR s 1) 1)]⟩ := ⟨⟨Nat.zero_le _, fun _ h => by cases h⟩, ⟨Nat.zero_le _, fun _ h => by cases h⟩, jjf (fun k hk => by rw [List.mem_singleton.1 hk]; exact o3) (by simp)⟩
  have s2 : shPg ⟨oneV s == 1, [], [], []⟩ := ⟨⟨Nat.zero_le _, fun _ h => by cases h⟩, ⟨Nat.zero_le _, fun _ h => by cases h⟩, ⟨Nat.zero_le _, fun _ h => by cases h⟩⟩
  have s3 : shPg ⟨true, X.2.2.1, X.2.2.2, []⟩ := ⟨jeB g1 (show X.2.2.1.length ≤ 1000 by omega) (by omega), jeB g2 (show X.2.2.2.length ≤ 1000 by omega) (by omega), ⟨Nat.zero_le _, fun _ h => by cases h⟩⟩
  have s4 : shPg ⟨false, Y.2.2.1, [], Z.2.2⟩ := ⟨jeB f1 (show Y.2.2.1.length ≤ 1000 by omega) (by omega), ⟨Nat.zero_le _, fun _ h => by cases h⟩, jjf e1 (show Z.2.2.length ≤ 1000 by omega)⟩
  have i1 : isPg (PV.agg [PV.bool false, PV.sl 0 [], PV.sl 0 [], PV.sl (List.length [oneV (tkR (tkR s 1) 1)]) [PV.int IntKind.i64 (oneV (tkR (tkR s 1) 1))]]) = true := pgI s1
  have i2 : isPg (PV.agg [PV.bool (oneV s == 1), PV.sl 0 [], PV.sl 0 [], PV.sl 0 []]) = true := pgI s2
  have i3 : isPg (PV.agg [PV.bool true, PV.sl X.2.2.1.length (X.2.2.1.map PV.str), PV.sl X.2.2.2.length (X.2.2.2.map PV.str), PV.sl 0 []]) = true := pgI s3
  have i4 : isPg (PV.agg [PV.bool false, PV.sl Y.2.2.1.length (Y.2.2.1.map PV.str), PV.sl 0 [], PV.sl Z.2.2.length (Z.2.2.map (PV.int .i64))]) = true := pgI s4
  have a1 : asPg (PV.agg [PV.bool false, PV.sl 0 [], PV.sl 0 [], PV.sl (List.length [oneV (tkR (tkR s 1) 1)]) [PV.int IntKind.i64 (oneV (tkR (tkR s 1) 1))]]) = ⟨false, [], [], [oneV (tkR (tkR s 1) 1)]⟩ := pgA ⟨false, [], [], [oneV (tkR (tkR s 1) 1)]⟩
  have a2 : asPg (PV.agg [PV.bool (oneV s == 1), PV.sl 0 [], PV.sl 0 [], PV.sl 0 []]) = ⟨oneV s == 1, [], [], []⟩ := pgA ⟨oneV s == 1, [], [], []⟩
  have a3 : asPg (PV.agg [PV.bool true, PV.sl X.2.2.1.length (X.2.2.1.map PV.str), PV.sl X.2.2.2.length (X.2.2.2.map PV.str), PV.sl 0 []]) = ⟨true, X.2.2.1, X.2.2.2, []⟩ := pgA ⟨true, X.2.2.1, X.2.2.2, []⟩
  have a4 : asPg (PV.agg [PV.bool false, PV.sl Y.2.2.1.length (Y.2.2.1.map PV.str), PV.sl 0 [], PV.sl Z.2.2.length (Z.2.2.map (PV.int .i64))]) = ⟨false, Y.2.2.1, [], Z.2.2⟩ := pgA ⟨false, Y.2.2.1, [], Z.2.2⟩
  have m0 : holds (smK ([] : List ByteArray)) = true := jad fun _ h => by cases h
  rw [i1, i2, i3, i4, a1, a2, a3, a4, ne_pg _ hno hs, ne_pg _ hno hs, ne_pg _ hno hs, ne_pg _ hno hs, m0, jad (jli g1), jad (jli f1), show isL (PV.sl Y.2.2.1.length (Y.2.2.1.map PV.str)) = true from jar s4.1, dT (show (1 : Int) ≤ ((Y.2.2.1.length + 1 : Nat) : Int) by omega), dT (show ((Y.2.2.1.length + 1 : Nat) : Int) ≤ 256 by omega), jad (show Y.1.size ≤ 2000000 by omega)] at tree
  refine tree.trans ?_
  generalize (oneV s == 1) = lf
  generalize tkB (tkR s 1) (tkB s false 1) 1 = b0
  generalize (kdN 1 (tkR (tkR s 1) 1) b0 []).2.1 = b1
  generalize X.2.1 = b2
  generalize Z.2.1 = b3
  generalize decide (oneV (tkR s 1) ≤ 0) = c0
  cases lf <;> cases b0 <;> cases b1 <;> cases b2 <;> cases b3 <;> cases c0 <;> rfl
 ·have hb : ((s.size : Int) != 1700) = true := by
   rw [bne_iff_ne]
   omega
  rw [hb] at tree
  exact tree.trans rfl
abbrev yP (x : PgT) : IV := bif x.leaf then bif Nat.beq x.keys.length 0 then .tup [.agg [.pv (.bool true), .pv .nils, .pv .nils, .pv .nils], cB true] else .tup [.agg [.pv (.bool true), cLs x.keys, cLs x.vals, .pv .nils], cB true] else .tup [.agg [.pv (.bool false), cLs x.keys, .pv .nils, cLi x.kids], cB true]
theorem jiH {x : PgT} (h : pageB x = true) (hl : x.leaf = false) : 1 ≤ x.keys.length := by
 have hn : nodB x = true := by
  unfold pageB at h
  rw [hl] at h
  exact (andE h).2
 unfold nodB at hn
 obtain ⟨b0, hn⟩ := andE hn
 obtain ⟨b1, hn⟩ := andE hn
 obtain ⟨c0, c1⟩ := andE b0
 have b1 := nqI b1
 have c0 := nqI c0
 omega
theorem jtS {x : PgT} (h : pageB x = true) : q_gp brC (pageV x) = some (yP x, []) := by
 have tree := jpq (pageV x)
 revert tree; try delta zzax2; intro tree
 revert tree; try delta zzax1; intro tree
 revert tree; try delta zzax0; intro tree
 obtain ⟨p1, p2, p3, p4, p5, p6⟩ := jcf h
 obtain ⟨hsh, hsm⟩ := jjK h
 obtain ⟨h1, h2, h3, h4, h5, h6⟩ := jbm h
 have hs := jcg h
 have hb : (((pageV x).size : Int) != 1700) = false := by rw [hs]; rfl
 have z1 := ja8 (pageV x) 1
 have z2 := ja8 (tkR (pageV x) 1) 1
 have m0 : holds (smK ([] : List ByteArray)) = true := jad fun _ h => by cases h
 have t0 := jiI (x := x)
 rw [hb, p1, p2, p3, dT (show (pageV x).size ≤ 2000000 by omega), dT (show (tkR (pageV x) 1).size ≤ 2000000 by omega), jad (show (tkR (tkR (pageV x) 1) 1).size ≤ 2000000 by omega), nqF, dT (show (0 : Int) ≤ (x.keys.length : Int) by omega), dT (show (x.keys.length : Int) ≤ 255 by omega)] at tree
 cases hl : x.leaf with
 | true =>
  have p4 := p4 hl
  have p6 := p6 hl
  obtain ⟨v1, v2, v3⟩ := h3 hl
  by_cases hk : x.keys.length = 0
  ·have ek : x.keys = [] := List.length_eq_zero_iff.1 hk
   have ev : x.vals = [] := List.length_eq_zero_iff.1 (by omega)
   have ex : x = ⟨true, [], [], []⟩ := by
    cases x
    dsimp only at hl ek ev p6
    rw [hl, ek, ev, p6]
   have i2 : isPg (PV.agg [PV.bool true, PV.sl 0 [], PV.sl 0 [], PV.sl 0 []]) = true := by rw [ex] at hsh; exact pgI hsh
   have a2 : asPg (PV.agg [PV.bool true, PV.sl 0 [], PV.sl 0 [], PV.sl 0 []]) = x := by rw [ex]; exact pgA ⟨true, [], [], []⟩
   rw [hl, i2, a2, t0, ek, m0, dT (show ((List.length ([] : List ByteArray) : Nat) : Int) ≤ 0 by simp)] at tree
   refine tree.trans ?_
   unfold yP
   rw [hl, ek]
   rfl
  ·have hkz : Nat.beq x.keys.length 0 = false := Bool.eq_false_iff.2 fun e => hk (nqB e)
   have ex : x = ⟨true, x.keys, x.vals, []⟩ := by
    cases x
    dsimp only at hl p6
    rw [hl, p6]
   have i3 : isPg (PV.agg [PV.bool true, PV.sl x.keys.length (x.keys.map PV.str), PV.sl x.vals.length (x.vals.map PV.str), PV.sl 0 []]) = true := by
    have := pgI hsh
    rw [hl, p6] at this
    exact this
   have a3 : asPg (PV.agg [PV.bool true, PV.sl x.keys.length (x.keys.map PV.str), PV.sl x.vals.length (x.vals.map PV.str), PV.sl 0 []]) = x := by
    have := pgA x
    rw [hl, p6] at this
    exact this
   rw [hl, dF (show ¬ (x.keys.length : Int) ≤ 0 by omega), p4] at tree
   dsimp only at tree
   rw [i3, a3, t0, jad hsm] at tree
   refine tree.trans ?_
   unfold yP
   rw [hl, hkz]
   rfl
 | false =>
  obtain ⟨c1, c2, c3, c4⟩ := p5 hl
  have hk := jiH h hl
  have i4 : isPg (PV.agg [PV.bool false, PV.sl x.keys.length (x.keys.map PV.str), PV.sl 0 [], PV.sl x.kids.length (x.kids.map (PV.int .i64))]) = true := by
   have := pgI hsh
   rw [hl, c4] at this
   exact this
  have a4 : asPg (PV.agg [PV.bool false, PV.sl x.keys.length (x.keys.map PV.str), PV.sl 0 [], PV.sl x.kids.length (x.kids.map (PV.int .i64))]) = x := by
   have := pgA x
   rw [hl, c4] at this
   exact this
  have w1 : IntKind.wrap .i64 ((x.keys.length : Int) + 1) = ((x.keys.length + 1 : Nat) : Int) := wrap1 (by omega)
  have zk : (kidsT ⟨#[]⟩ x.kids ++ zerV (1700 - (bodyP x).size)).size ≤ 2000000 := by
   rw [nqM, jdV, jcQ]
   have : (⟨#[]⟩ : ByteArray).size = 0 := rfl
   omega
  rw [hl, dF (show ¬ (x.keys.length : Int) ≤ 0 by omega), c1] at tree
  dsimp only at tree
  rw [w1, nqF, c3] at tree
  dsimp only at tree
  rw [i4, a4, t0, jad hsm, jad zk, show isL (PV.sl x.keys.length (x.keys.map PV.str)) = true from jar hsh.1, dT (show (1 : Int) ≤ ((x.keys.length + 1 : Nat) : Int) by omega), dT (show ((x.keys.length + 1 : Nat) : Int) ≤ 256 by omega)] at tree
  refine tree.trans ?_
  unfold yP
  rw [hl]
  rfl
theorem jpm {α : Type} {c d e f : Bool} {r r' r'' s q : α} (h : pickA [(c, r), (d, r'), (e, r''), (f, s)] = some q) : (c = true ∧ r = q) ∨ (c = false ∧ d = true ∧ r' = q) ∨ (c = false ∧ d = false ∧ e = true ∧ r'' = q) ∨ (c = false ∧ d = false ∧ e = false ∧ f = true ∧ s = q) := by
 cases c with
 | true => exact .inl ⟨rfl, by injection h⟩
 | false =>
  cases d with
  | true => exact .inr (.inl ⟨rfl, rfl, by injection h⟩)
  | false =>
   cases e with
   | true => exact .inr (.inr (.inl ⟨rfl, rfl, rfl, by injection h⟩))
   | false =>
    cases f with
    | true => exact .inr (.inr (.inr ⟨rfl, rfl, rfl, rfl, by injection h⟩))
    | false => cases h
theorem jl8 {q : ByteArray → Option (IV × List (List CV))} (hno : ∀ s, s.size ≤ 2000000 → ¬ isPgS s → q s = some (.tup [.agg [.pv (.bool false), .pv .nils, .pv .nils, .pv .nils], cB false], [])) (hy : ∀ x, pageB x = true → q (pageV x) = some (yP x, []))
  {s : ByteArray} {res : IV} {bxs : List (List CV)} (h : pickA (E_gp [.cv (.pv (.str s))]) = some (res, bxs)) : q s = some (res, bxs) := by
 unfold E_gp at h
 dsimp only at h
 by_cases hp : isPgS s
 ·obtain ⟨x, hx, rfl⟩ := hp
  have hz : (pageV x).size ≤ 2000000 := by rw [jcg hx]; decide
  rw [jos hx, show holds (isPgS (pageV x)) = true from jad ⟨x, hx, rfl⟩, dT hz] at h
  refine (hy x hx).trans ?_
  unfold yP
  rcases jpm h with ⟨hc, he⟩ | ⟨hn, hc, he⟩ | ⟨hn, hn2, hc, he⟩ | ⟨hn, hn2, hn3, hc, he⟩
  ·cases he
   obtain ⟨k0, k1⟩ := andE hc
   obtain ⟨k2, k3⟩ := andE k0
   rw [k1, k3]
   rfl
  ·cases he
   obtain ⟨k2, k3⟩ := andE hc
   rw [k3] at hn
   simp only [Bool.true_and] at hn
   rw [k3, hn]
   rfl
  ·cases he
   simp only [Bool.true_and] at hn2
   rw [hn2]
   rfl
  ·cases hn3
 ·have hF : holds (isPgS s) = false := @decide_eq_false _ (Classical.propDecidable _) hp
  rw [hF] at h
  rcases jpm h with ⟨hc, he⟩ | ⟨hn, hc, he⟩ | ⟨hn, hn2, hc, he⟩ | ⟨hn, hn2, hn3, hc, he⟩
  ·rw [Bool.and_false, Bool.false_and, Bool.false_and] at hc; cases hc
  ·rw [Bool.and_false, Bool.false_and] at hc; cases hc
  ·rw [Bool.and_false] at hc; cases hc
  ·cases he
   exact hno s (nqI hc) hp
theorem ok_gp : jac Tryz.prog 8 E_gp := jag mix jsV (lp := lp_gp) (LO := LO_gp) ⟨Tryz.func8, by kernel_rfl, by kernel_rfl⟩ (by kernel_rfl) fun ivs res bxs h => by
 have hh := h
 unfold E_gp at h
 split at h
 ·rename_i s
  exact ⟨jqU, jl8 (q := q_gp brC) (fun s _ hno => gp_no s hno) (fun x hx => jtS hx) hh⟩
 ·cases h
theorem jtk : jah Tryz.prog rib1 := ⟨jk1, jsg, jt1, trivial⟩
theorem jop (s s2 r last : ByteArray) (m : Int) (b : Bool) (i : Nat) (hr : Suf s2 r) (hs2 : s2.size ≤ 2000000) (hi : (i : Int) < m) (hi6 : i ≤ 6) :
  rdB brC Tryz.prog rib1 ja2 ja3 Tryz.f7 7 [] [aS s, aG0 2 false, aSr 4 s2 (posR s2 r) b, aI m, aG0 7 true, aS last, aI i] = some (bif decide (oneV r > (last.size : Int)) then .inr (.ret, [aS s, aG0 2 false, aB false, aSr 4 s2 (posR s2 (tkR (tkR r 1) 1)) (tkB (tkR r 1) (tkB r b 1) 1), aI m, aG0 7 true]) else .inl [aS s, aG0 2 false, aSr 4 s2 (posR s2 (gR true r)) (gB true r b), aI m, aGL 7 [ukey r last] [gV r], aS (ukey r last), aI ((i + 1 : Nat) : Int)]) := by
 have tree := jhf s s2 (posR s2 r) b m true last i
 revert tree; try delta zzan2; intro tree
 revert tree; try delta zzan1; intro tree
 revert tree; try delta zzan0; intro tree
 have y1 : decide (s2.size ≤ 2000000) = true := decide_eq_true hs2
 have h1 : tkR (tkR (tkR r 1) 1) (oneV (tkR r 1)).toNat = t1R (tkR r 1) := rfl
 have o1 := jaz r
 have zk := jbc r last
 have h2 : tkR (tkR (t1R (tkR r 1)) 1) (oneV (t1R (tkR r 1))).toNat = gR true r := (show _ = t1R (t1R (tkR r 1)) from rfl).trans (gR_t r).symm
 have h3 : tkS (tkR (t1R (tkR r 1)) 1) (oneV (t1R (tkR r 1))).toNat = gV r := rfl
 have h4 : tkB (tkR (t1R (tkR r 1)) 1) (tkB (t1R (tkR r 1)) (tkB (tkR (tkR r 1) 1) (tkB (tkR r 1) (tkB r b 1) 1) (oneV (tkR r 1)).toNat) 1) (oneV (t1R (tkR r 1))).toNat = gB true r b := (show _ = t1B (t1R (tkR r 1)) (t1B (tkR r 1) (tkB r b 1)) from rfl).trans (gB_t r b).symm
 rw [dT hi, dT (show (i : Int) ≤ 6 by omega)] at tree
 simp (disch := (repeat (first | assumption | refine Suf.tk ?_ _))) only [jbz, jbn, jbp, jhQ, y1, bt1, Bool.and_true, Bool.true_and, Bool.not_false, brT, brF] at tree
 have w1 : IntKind.wrap .i64 ((i : Int) + 1) = ((i + 1 : Nat) : Int) := by rw [wrapI (by omega) (by omega)]; omega
 try rw [w1] at tree
 by_cases hc : oneV r > (last.size : Int)
 ·rw [dT hc] at tree ⊢
  rw [cond_true]
  exact tree
 ·have e : last.extract 0 (oneV r).toNat ++ tkS (tkR (tkR r 1) 1) (oneV (tkR r 1)).toNat = ukey r last := by
   unfold ukey ucut
   rw [Nat.min_eq_left (by omega)]
   rfl
  have zk2 : (last.extract 0 (oneV r).toNat).size + (tkS (tkR (tkR r 1) 1) (oneV (tkR r 1)).toNat).size ≤ 510 := by rw [← nqM, e]; exact zk
  rw [dF hc] at tree ⊢
  rw [e, h1, h2, h3, h4] at tree
  simp (disch := omega) only [brT, brF, dT, decide_true, Bool.and_true, Bool.true_and] at tree
  rw [cond_false]
  exact tree
theorem jot (s s2 r last : ByteArray) (m : Int) (b : Bool) (i : Nat) (hr : Suf s2 r) (hs2 : s2.size ≤ 2000000) (hi : (i : Int) < m) (hi6 : i ≤ 6) :
  rdB brC Tryz.prog rib1 ja2 ja3 Tryz.f7 7 [] [aS s, aG0 2 false, aSr 4 s2 (posR s2 r) b, aI m, aG0 7 false, aS last, aI i] = some (bif decide (oneV r > (last.size : Int)) then .inr (.ret, [aS s, aG0 2 false, aB false, aSr 4 s2 (posR s2 (tkR (tkR r 1) 1)) (tkB (tkR r 1) (tkB r b 1) 1), aI m, aG0 7 false]) else .inl [aS s, aG0 2 false, aSr 4 s2 (posR s2 (gR false r)) (gB false r b), aI m, aGN 7 [ukey r last], aS (ukey r last), aI ((i + 1 : Nat) : Int)]) := by
 have tree := jhf s s2 (posR s2 r) b m false last i
 revert tree; try delta zzan2; intro tree
 revert tree; try delta zzan1; intro tree
 revert tree; try delta zzan0; intro tree
 have y1 : decide (s2.size ≤ 2000000) = true := decide_eq_true hs2
 have h1 : tkR (tkR (tkR r 1) 1) (oneV (tkR r 1)).toNat = t1R (tkR r 1) := rfl
 have o1 := jaz r
 have zk := jbc r last
 have h5 : t1R (tkR r 1) = gR false r := (gR_f r).symm
 have h6 : tkB (tkR (tkR r 1) 1) (tkB (tkR r 1) (tkB r b 1) 1) (oneV (tkR r 1)).toNat = gB false r b := (show _ = t1B (tkR r 1) (tkB r b 1) from rfl).trans (gB_f r b).symm
 rw [dT hi, dT (show (i : Int) ≤ 6 by omega)] at tree
 simp (disch := (repeat (first | assumption | refine Suf.tk ?_ _))) only [jbz, jbn, jbp, jhQ, y1, bt1, Bool.and_true, Bool.true_and, Bool.not_false, brT, brF] at tree
 have w1 : IntKind.wrap .i64 ((i : Int) + 1) = ((i + 1 : Nat) : Int) := by rw [wrapI (by omega) (by omega)]; omega
 try rw [w1] at tree
 by_cases hc : oneV r > (last.size : Int)
 ·rw [dT hc] at tree ⊢
  rw [cond_true]
  exact tree
 ·have e : last.extract 0 (oneV r).toNat ++ tkS (tkR (tkR r 1) 1) (oneV (tkR r 1)).toNat = ukey r last := by
   unfold ukey ucut
   rw [Nat.min_eq_left (by omega)]
   rfl
  have zk2 : (last.extract 0 (oneV r).toNat).size + (tkS (tkR (tkR r 1) 1) (oneV (tkR r 1)).toNat).size ≤ 510 := by rw [← nqM, e]; exact zk
  rw [dF hc] at tree ⊢
  rw [e, h1, h5, h6] at tree
  simp (disch := omega) only [brT, brF, dT, decide_true, Bool.and_true, Bool.true_and] at tree
  rw [cond_false]
  exact tree
theorem jq0 (s s2 r last : ByteArray) (ks vs : List ByteArray) (m : Int) (b : Bool) (i : Nat) (hr : Suf s2 r) (hs2 : s2.size ≤ 2000000) (hl : ks.length ≤ 300) (hv : vs.length ≤ 300) (hi : (i : Int) < m) (hi6 : i ≤ 6) :
  rdB brC Tryz.prog rib1 ja2 ja3 Tryz.f7 7 [] [aS s, aG0 2 false, aSr 4 s2 (posR s2 r) b, aI m, aGL 7 ks vs, aS last, aI i] = some (bif decide (oneV r > (last.size : Int)) then .inr (.ret, [aS s, aG0 2 false, aB false, aSr 4 s2 (posR s2 (tkR (tkR r 1) 1)) (tkB (tkR r 1) (tkB r b 1) 1), aI m, aGL 7 ks vs]) else .inl [aS s, aG0 2 false, aSr 4 s2 (posR s2 (gR true r)) (gB true r b), aI m, aGL 7 (ks ++ [ukey r last]) (vs ++ [gV r]), aS (ukey r last), aI ((i + 1 : Nat) : Int)]) := by
 have tree := jlh s s2 (posR s2 r) b m ks vs last i
 revert tree; try delta zzas1; intro tree
 revert tree; try delta zzas0; intro tree
 have y1 : decide (s2.size ≤ 2000000) = true := decide_eq_true hs2
 have h1 : tkR (tkR (tkR r 1) 1) (oneV (tkR r 1)).toNat = t1R (tkR r 1) := rfl
 have o1 := jaz r
 have zk := jbc r last
 have h2 : tkR (tkR (t1R (tkR r 1)) 1) (oneV (t1R (tkR r 1))).toNat = gR true r := (show _ = t1R (t1R (tkR r 1)) from rfl).trans (gR_t r).symm
 have h3 : tkS (tkR (t1R (tkR r 1)) 1) (oneV (t1R (tkR r 1))).toNat = gV r := rfl
 have h4 : tkB (tkR (t1R (tkR r 1)) 1) (tkB (t1R (tkR r 1)) (tkB (tkR (tkR r 1) 1) (tkB (tkR r 1) (tkB r b 1) 1) (oneV (tkR r 1)).toNat) 1) (oneV (t1R (tkR r 1))).toNat = gB true r b := (show _ = t1B (t1R (tkR r 1)) (t1B (tkR r 1) (tkB r b 1)) from rfl).trans (gB_t r b).symm
 rw [dT hi, dT (show (i : Int) ≤ 6 by omega)] at tree
 simp (disch := (repeat (first | assumption | refine Suf.tk ?_ _))) only [jbz, jbn, jbp, jhQ, y1, bt1, Bool.and_true, Bool.true_and, Bool.not_false, brT, brF] at tree
 have w1 : IntKind.wrap .i64 ((i : Int) + 1) = ((i + 1 : Nat) : Int) := by rw [wrapI (by omega) (by omega)]; omega
 try rw [w1] at tree
 by_cases hc : oneV r > (last.size : Int)
 ·rw [dT hc] at tree ⊢
  rw [cond_true]
  exact tree
 ·have e : last.extract 0 (oneV r).toNat ++ tkS (tkR (tkR r 1) 1) (oneV (tkR r 1)).toNat = ukey r last := by
   unfold ukey ucut
   rw [Nat.min_eq_left (by omega)]
   rfl
  have zk2 : (last.extract 0 (oneV r).toNat).size + (tkS (tkR (tkR r 1) 1) (oneV (tkR r 1)).toNat).size ≤ 510 := by rw [← nqM, e]; exact zk
  rw [dF hc] at tree ⊢
  rw [e, h1, h2, h3, h4] at tree
  simp (disch := omega) only [brT, brF, dT, decide_true, Bool.and_true, Bool.true_and] at tree
  rw [cond_false]
  unfold aGL cLs
  rw [jc1, jc1, jaw, jaw]
  exact tree
theorem jqH (s s2 r last : ByteArray) (ks : List ByteArray) (m : Int) (b : Bool) (i : Nat) (hr : Suf s2 r) (hs2 : s2.size ≤ 2000000) (hl : ks.length ≤ 300) (hi : (i : Int) < m) (hi6 : i ≤ 6) :
  rdB brC Tryz.prog rib1 ja2 ja3 Tryz.f7 7 [] [aS s, aG0 2 false, aSr 4 s2 (posR s2 r) b, aI m, aGN 7 ks, aS last, aI i] = some (bif decide (oneV r > (last.size : Int)) then .inr (.ret, [aS s, aG0 2 false, aB false, aSr 4 s2 (posR s2 (tkR (tkR r 1) 1)) (tkB (tkR r 1) (tkB r b 1) 1), aI m, aGN 7 ks]) else .inl [aS s, aG0 2 false, aSr 4 s2 (posR s2 (gR false r)) (gB false r b), aI m, aGN 7 (ks ++ [ukey r last]), aS (ukey r last), aI ((i + 1 : Nat) : Int)]) := by
 have tree := jkW s s2 (posR s2 r) b m ks last i
 revert tree; try delta zzar0; intro tree
 have y1 : decide (s2.size ≤ 2000000) = true := decide_eq_true hs2
 have h1 : tkR (tkR (tkR r 1) 1) (oneV (tkR r 1)).toNat = t1R (tkR r 1) := rfl
 have o1 := jaz r
 have zk := jbc r last
 have h5 : t1R (tkR r 1) = gR false r := (gR_f r).symm
 have h6 : tkB (tkR (tkR r 1) 1) (tkB (tkR r 1) (tkB r b 1) 1) (oneV (tkR r 1)).toNat = gB false r b := (show _ = t1B (tkR r 1) (tkB r b 1) from rfl).trans (gB_f r b).symm
 rw [dT hi, dT (show (i : Int) ≤ 6 by omega)] at tree
 simp (disch := (repeat (first | assumption | refine Suf.tk ?_ _))) only [jbz, jbn, jbp, jhQ, y1, bt1, Bool.and_true, Bool.true_and, Bool.not_false, brT, brF] at tree
 have w1 : IntKind.wrap .i64 ((i : Int) + 1) = ((i + 1 : Nat) : Int) := by rw [wrapI (by omega) (by omega)]; omega
 try rw [w1] at tree
 by_cases hc : oneV r > (last.size : Int)
 ·rw [dT hc] at tree ⊢
  rw [cond_true]
  exact tree
 ·have e : last.extract 0 (oneV r).toNat ++ tkS (tkR (tkR r 1) 1) (oneV (tkR r 1)).toNat = ukey r last := by
   unfold ukey ucut
   rw [Nat.min_eq_left (by omega)]
   rfl
  have zk2 : (last.extract 0 (oneV r).toNat).size + (tkS (tkR (tkR r 1) 1) (oneV (tkR r 1)).toNat).size ≤ 510 := by rw [← nqM, e]; exact zk
  rw [dF hc] at tree ⊢
  rw [e, h1, h5, h6] at tree
  simp (disch := omega) only [brT, brF, dT, decide_true, Bool.and_true, Bool.true_and] at tree
  rw [cond_false]
  unfold aGN cLs
  rw [jc1, jaw]
  exact tree
theorem jkg (lf : Bool) : ∀ (n : Nat) (r : ByteArray) (b : Bool) (last : ByteArray) (ks vs : List ByteArray), ks.length ≤ (gsN lf n r b last ks vs).2.2.2.1.length
 | 0, r, b, last, ks, vs => Nat.le_refl _
 | n + 1, r, b, last, ks, vs => by
  unfold gsN
  cases decide (oneV r > (last.size : Int)) with
  | true => exact Nat.le_refl _
  | false =>
   rw [cond_false]
   refine Nat.le_trans ?_ (jkg lf n _ _ _ _ _)
   rw [jaw]
   omega
theorem jnE {slot : Nat} {lf : Bool} {ks vs : List ByteArray} (h : 1 ≤ ks.length) : aGS slot lf ks vs = bif lf then aGL slot ks vs else aGN slot ks := by
 have : Nat.beq ks.length 0 = false := Bool.eq_false_iff.2 fun e => by have := nqB e; omega
 unfold aGS
 rw [this]
 rfl
theorem jqJ (s s2 : ByteArray) (m : Int) (hs2 : s2.size ≤ 2000000) : ∀ (j i : Nat) (r : ByteArray) (b : Bool) (last : ByteArray) (ks vs : List ByteArray), j + i = min m.toNat 7 → Suf s2 r → ks.length ≤ i → vs.length ≤ i →
  LoopsTo (rdB brC Tryz.prog rib1 ja2 ja3 Tryz.f7 7 []) [aS s, aG0 2 false, aSr 4 s2 (posR s2 r) b, aI m, aGL 7 ks vs, aS last, aI i]
   (if (gsN true j r b last ks vs).1 = true then (.exit 0, [aS s, aG0 2 false, aX, aSr 4 s2 (posR s2 (gsN true j r b last ks vs).2.1) (gsN true j r b last ks vs).2.2.1, aI m, aGL 7 (gsN true j r b last ks vs).2.2.2.1 (gsN true j r b last ks vs).2.2.2.2])
    else (.ret, [aS s, aG0 2 false, aB false, aSr 4 s2 (posR s2 (gsN true j r b last ks vs).2.1) (gsN true j r b last ks vs).2.2.1, aI m, aGL 7 (gsN true j r b last ks vs).2.2.2.1 (gsN true j r b last ks vs).2.2.2.2])) := by
 intro j
 induction j with
 | zero =>
  intro i r b last ks vs hj hr hl hv
  unfold gsN
  rw [if_pos rfl]
  refine .done _ _ ((jlh s s2 (posR s2 r) b m ks vs last i).trans ?_)
  try delta zzas1
  try delta zzas0
  by_cases hm : (i : Int) < m
  ·rw [dT hm, dF (show ¬ (i : Int) ≤ 6 by omega)]
   rfl
  ·rw [dF hm]
   rfl
 | succ j ih =>
  intro i r b last ks vs hj hr hl hv
  have step := jq0 s s2 r last ks vs m b i hr hs2 (by omega) (by omega) (by omega) (by omega)
  unfold gsN
  cases hc : decide (oneV r > (last.size : Int)) with
  | true =>
   rw [hc] at step
   rw [cond_true, if_neg Bool.false_ne_true]
   exact .done _ _ step
  | false =>
   rw [hc] at step
   rw [cond_false, cond_true]
   exact .step _ _ _ step (ih (i + 1) (gR true r) (gB true r b) (ukey r last) (ks ++ [ukey r last]) (vs ++ [gV r]) (by omega) (by rw [gR_t]; exact Suf.t1 (Suf.t1 (Suf.tk hr _))) (by rw [jaw]; omega) (by rw [jaw]; omega))
theorem jp8 (s s2 : ByteArray) (m : Int) (hs2 : s2.size ≤ 2000000) : ∀ (j i : Nat) (r : ByteArray) (b : Bool) (last : ByteArray) (ks vs : List ByteArray), j + i = min m.toNat 7 → Suf s2 r → ks.length ≤ i →
  LoopsTo (rdB brC Tryz.prog rib1 ja2 ja3 Tryz.f7 7 []) [aS s, aG0 2 false, aSr 4 s2 (posR s2 r) b, aI m, aGN 7 ks, aS last, aI i]
   (if (gsN false j r b last ks vs).1 = true then (.exit 0, [aS s, aG0 2 false, aX, aSr 4 s2 (posR s2 (gsN false j r b last ks vs).2.1) (gsN false j r b last ks vs).2.2.1, aI m, aGN 7 (gsN false j r b last ks vs).2.2.2.1])
    else (.ret, [aS s, aG0 2 false, aB false, aSr 4 s2 (posR s2 (gsN false j r b last ks vs).2.1) (gsN false j r b last ks vs).2.2.1, aI m, aGN 7 (gsN false j r b last ks vs).2.2.2.1])) := by
 intro j
 induction j with
 | zero =>
  intro i r b last ks vs hj hr hl
  unfold gsN
  rw [if_pos rfl]
  refine .done _ _ ((jkW s s2 (posR s2 r) b m ks last i).trans ?_)
  try delta zzar0
  by_cases hm : (i : Int) < m
  ·rw [dT hm, dF (show ¬ (i : Int) ≤ 6 by omega)]
   rfl
  ·rw [dF hm]
   rfl
 | succ j ih =>
  intro i r b last ks vs hj hr hl
  have step := jqH s s2 r last ks m b i hr hs2 (by omega) (by omega) (by omega)
  unfold gsN
  cases hc : decide (oneV r > (last.size : Int)) with
  | true =>
   rw [hc] at step
   rw [cond_true, if_neg Bool.false_ne_true]
   exact .done _ _ step
  | false =>
   rw [hc] at step
   rw [cond_false, cond_false]
   exact .step _ _ _ step (ih (i + 1) (gR false r) (gB false r b) (ukey r last) (ks ++ [ukey r last]) vs (by omega) (by rw [gR_f]; exact Suf.t1 (Suf.tk hr _)) (by rw [jaw]; omega))
theorem jqd (s s2 : ByteArray) (m : Int) (hs2 : s2.size ≤ 2000000) (hm : 0 < m) (lf : Bool) (r : ByteArray) (b : Bool) (hr : Suf s2 r) :
  LoopsTo (rdB brC Tryz.prog rib1 ja2 ja3 Tryz.f7 7 []) [aS s, aG0 2 false, aSr 4 s2 (posR s2 r) b, aI m, aG0 7 lf, aS ⟨#[]⟩, aI 0]
   (if (gsN lf (min m.toNat 7) r b ⟨#[]⟩ [] []).1 = true then (.exit 0, [aS s, aG0 2 false, aX, aSr 4 s2 (posR s2 (gsN lf (min m.toNat 7) r b ⟨#[]⟩ [] []).2.1) (gsN lf (min m.toNat 7) r b ⟨#[]⟩ [] []).2.2.1, aI m, bif lf then aGL 7 (gsN lf (min m.toNat 7) r b ⟨#[]⟩ [] []).2.2.2.1 (gsN lf (min m.toNat 7) r b ⟨#[]⟩ [] []).2.2.2.2 else aGN 7 (gsN lf (min m.toNat 7) r b ⟨#[]⟩ [] []).2.2.2.1])
    else (.ret, [aS s, aG0 2 false, aB false, aSr 4 s2 (posR s2 (gsN lf (min m.toNat 7) r b ⟨#[]⟩ [] []).2.1) (gsN lf (min m.toNat 7) r b ⟨#[]⟩ [] []).2.2.1, aI m, aGS 7 lf (gsN lf (min m.toNat 7) r b ⟨#[]⟩ [] []).2.2.2.1 (gsN lf (min m.toNat 7) r b ⟨#[]⟩ [] []).2.2.2.2])) := by
 obtain ⟨j, hj⟩ : ∃ j : Nat, min m.toNat 7 = j + 1 := ⟨min m.toNat 7 - 1, by omega⟩
 rw [hj]
 cases lf with
 | true =>
  have step := jop s s2 r ⟨#[]⟩ m b 0 hr hs2 hm (by omega)
  have hlen := jkg true j (gR true r) (gB true r b) (ukey r ⟨#[]⟩) ([] ++ [ukey r ⟨#[]⟩]) ([] ++ [gV r])
  have lp := jqJ s s2 m hs2 j 1 (gR true r) (gB true r b) (ukey r ⟨#[]⟩) ([] ++ [ukey r ⟨#[]⟩]) ([] ++ [gV r]) (by omega) (by rw [gR_t]; exact Suf.t1 (Suf.t1 (Suf.tk hr _))) (by simp) (by simp)
  unfold gsN
  cases hc : decide (oneV r > (((⟨#[]⟩ : ByteArray).size : Nat) : Int)) with
  | true =>
   rw [hc] at step
   rw [cond_true, if_neg Bool.false_ne_true]
   exact .done _ _ step
  | false =>
   rw [hc] at step
   rw [cond_false, cond_true, cond_true, jnE (Nat.le_trans (by simp) hlen), cond_true]
   exact .step _ _ _ step lp
 | false =>
  have step := jot s s2 r ⟨#[]⟩ m b 0 hr hs2 hm (by omega)
  have hlen := jkg false j (gR false r) (gB false r b) (ukey r ⟨#[]⟩) ([] ++ [ukey r ⟨#[]⟩]) []
  have lp := jp8 s s2 m hs2 j 1 (gR false r) (gB false r b) (ukey r ⟨#[]⟩) ([] ++ [ukey r ⟨#[]⟩]) [] (by omega) (by rw [gR_f]; exact Suf.t1 (Suf.tk hr _)) (by simp)
  unfold gsN
  cases hc : decide (oneV r > (((⟨#[]⟩ : ByteArray).size : Nat) : Int)) with
  | true =>
   rw [hc] at step
   rw [cond_true, if_neg Bool.false_ne_true]
   exact .done _ _ step
  | false =>
   rw [hc] at step
   rw [cond_false, cond_false, cond_false, jnE (Nat.le_trans (by simp) hlen), cond_false]
   exact .step _ _ _ step lp
theorem jq9 (s s2 : ByteArray) (m : Nat) (hs2 : s2.size ≤ 2000000) : ∀ (j i : Nat) (r : ByteArray) (b : Bool) (cs : List Int), j + i = min m 6 + 1 → Suf s2 r → cs.length ≤ i →
  LoopsTo (rdB brC Tryz.prog rib1 ja2 ja3 Tryz.f7 19 []) [aS s, aG0 2 false, aSr 4 s2 (posR s2 r) b, aI m, aGK 7 (.pv .nils) cs, aI i] (.exit 2, [aS s, aG0 2 false, aSr 4 s2 (posR s2 (kdN j r b cs).1) (kdN j r b cs).2.1, aGK 7 (.pv .nils) (kdN j r b cs).2.2]) := by
 intro j
 induction j with
 | zero =>
  intro i r b cs hj hr hc
  refine .done _ _ ((jlT s s2 (posR s2 r) b m cs i).trans ?_)
  by_cases hm : (i : Int) ≤ (m : Int)
  ·rw [dT hm, dF (show ¬ (i : Int) ≤ 6 by omega)]
   rfl
  ·rw [dF hm]
   rfl
 | succ j ih =>
  intro i r b cs hj hr hc
  have tree := jlT s s2 (posR s2 r) b m cs i
  have y1 : decide (s2.size ≤ 2000000) = true := decide_eq_true hs2
  rw [dT (show (i : Int) ≤ (m : Int) by omega), dT (show (i : Int) ≤ 6 by omega)] at tree
  simp (disch := first | assumption | omega) only [jbz, jbn, jbp, y1, dT, decide_true, bt1i, wrap1, Bool.and_true, Bool.true_and] at tree
  have := ih (i + 1) (tkR r 1) (tkB r b 1) (cs ++ [oneV r]) (by omega) (Suf.tk hr _) (by rw [jaw]; omega)
  unfold aGK cLi at this
  rw [jeW, jaw] at this
  unfold kdN
  exact .step _ _ _ tree this
theorem jqX (s s2 : ByteArray) (m : Nat) (hs2 : s2.size ≤ 2000000) (r : ByteArray) (b : Bool) (hr : Suf s2 r) :
  LoopsTo (rdB brC Tryz.prog rib1 ja2 ja3 Tryz.f7 19 []) [aS s, aG0 2 false, aSr 4 s2 (posR s2 r) b, aI m, aG0 7 false, aI 0] (.exit 2, [aS s, aG0 2 false, aSr 4 s2 (posR s2 (kdN (min m 6 + 1) r b []).1) (kdN (min m 6 + 1) r b []).2.1, aGK 7 (.pv .nils) (kdN (min m 6 + 1) r b []).2.2]) := by
 have tree := jkX s s2 (posR s2 r) b m false 0
 have y1 : decide (s2.size ≤ 2000000) = true := decide_eq_true hs2
 rw [dT (show (0 : Int) ≤ (m : Int) by omega), dT (show (0 : Int) ≤ 6 by omega)] at tree
 simp (disch := first | assumption | omega) only [jbz, jbn, jbp, y1, dT, decide_true, Bool.and_true, Bool.true_and] at tree
 have := jq9 s s2 m hs2 (min m 6) 1 (tkR r 1) (tkB r b 1) [oneV r] (by omega) (Suf.tk hr _) (by simp)
 exact .step _ _ _ tree this
theorem jre (s s2 : ByteArray) (ks : List ByteArray) (m : Nat) (hs2 : s2.size ≤ 2000000) : ∀ (j i : Nat) (r : ByteArray) (b : Bool) (cs : List Int), j + i = min m 6 + 1 → Suf s2 r → cs.length ≤ i →
  LoopsTo (rdB brC Tryz.prog rib1 ja2 ja3 Tryz.f7 19 []) [aS s, aG0 2 false, aSr 4 s2 (posR s2 r) b, aI m, aGK 7 (cLs ks) cs, aI i] (.exit 2, [aS s, aG0 2 false, aSr 4 s2 (posR s2 (kdN j r b cs).1) (kdN j r b cs).2.1, aGK 7 (cLs ks) (kdN j r b cs).2.2]) := by
 intro j
 induction j with
 | zero =>
  intro i r b cs hj hr hc
  refine .done _ _ ((jle s s2 (posR s2 r) b m ks cs i).trans ?_)
  by_cases hm : (i : Int) ≤ (m : Int)
  ·rw [dT hm, dF (show ¬ (i : Int) ≤ 6 by omega)]
   rfl
  ·rw [dF hm]
   rfl
 | succ j ih =>
  intro i r b cs hj hr hc
  have tree := jle s s2 (posR s2 r) b m ks cs i
  have y1 : decide (s2.size ≤ 2000000) = true := decide_eq_true hs2
  rw [dT (show (i : Int) ≤ (m : Int) by omega), dT (show (i : Int) ≤ 6 by omega)] at tree
  simp (disch := first | assumption | omega) only [jbz, jbn, jbp, y1, dT, decide_true, bt1i, wrap1, Bool.and_true, Bool.true_and] at tree
  have := ih (i + 1) (tkR r 1) (tkB r b 1) (cs ++ [oneV r]) (by omega) (Suf.tk hr _) (by rw [jaw]; omega)
  unfold aGK cLi at this
  rw [jeW, jaw] at this
  unfold kdN
  exact .step _ _ _ tree this
theorem jrg (s s2 : ByteArray) (ks : List ByteArray) (m : Nat) (hs2 : s2.size ≤ 2000000) (r : ByteArray) (b : Bool) (hr : Suf s2 r) :
  LoopsTo (rdB brC Tryz.prog rib1 ja2 ja3 Tryz.f7 19 []) [aS s, aG0 2 false, aSr 4 s2 (posR s2 r) b, aI m, aGN 7 ks, aI 0] (.exit 2, [aS s, aG0 2 false, aSr 4 s2 (posR s2 (kdN (min m 6 + 1) r b []).1) (kdN (min m 6 + 1) r b []).2.1, aGK 7 (cLs ks) (kdN (min m 6 + 1) r b []).2.2]) := by
 have tree := jqi s s2 (posR s2 r) b m ks 0
 have y1 : decide (s2.size ≤ 2000000) = true := decide_eq_true hs2
 rw [dT (show (0 : Int) ≤ (m : Int) by omega), dT (show (0 : Int) ≤ 6 by omega)] at tree
 simp (disch := first | assumption | omega) only [jbz, jbn, jbp, y1, dT, decide_true, Bool.and_true, Bool.true_and] at tree
 have := jre s s2 ks m hs2 (min m 6) 1 (tkR r 1) (tkB r b 1) [oneV r] (by omega) (Suf.tk hr _) (by simp)
 exact .step _ _ _ tree this
theorem jjx : ∀ (l v pre vpre : List ByteArray) (r last : ByteArray), (∀ k ∈ l, k.size ≤ 213) → v.length = l.length → (∀ x ∈ v, x.size ≤ 64) →
  gsN true l.length (recsT true ⟨#[]⟩ last l v ++ r) false last pre vpre = (true, r, false, pre ++ l, vpre ++ v)
 | [], [], pre, vpre, r, last, _, _, _ => by
  unfold recsT
  rw [jbA, List.append_nil, List.append_nil]
  rfl
 | [], _ :: _, _, _, _, _, _, h, _ => by cases h
 | _ :: _, [], _, _, _, _, _, h, _ => by cases h
 | k :: t, x :: v, pre, vpre, r, last, hl, he, hv => by
  have ih := jjx t v (pre ++ [k]) (vpre ++ [x]) r k (fun i hi => hl i (List.mem_cons_of_mem _ hi)) (by simpa using he) fun i hi => hv i (List.mem_cons_of_mem _ hi)
  obtain ⟨u1, u2, u3, u4, u5⟩ := jlu true last k x (recsT true ⟨#[]⟩ k t v ++ r) (hl k (List.mem_cons_self ..)) fun _ => hv x (List.mem_cons_self ..)
  have u4 := u4 rfl
  have c1 := (jbP last k).1
  rw [jcT, nqH, List.headD_cons, List.tail_cons]
  unfold gsN
  rw [u5, dF (show ¬ ((jae last k : Nat) : Int) > (last.size : Int) by omega), cond_false, u1, u2, u3, u4, cond_true, ih, List.append_assoc, List.append_assoc]
  rfl
theorem jji : ∀ (l v pre vpre : List ByteArray) (r last : ByteArray), (∀ k ∈ l, k.size ≤ 213) →
  gsN false l.length (recsT false ⟨#[]⟩ last l v ++ r) false last pre vpre = (true, r, false, pre ++ l, vpre)
 | [], v, pre, vpre, r, last, _ => by
  unfold recsT
  rw [jbA, List.append_nil]
  rfl
 | k :: t, v, pre, vpre, r, last, hl => by
  have ih := jji t v.tail (pre ++ [k]) vpre r k fun i hi => hl i (List.mem_cons_of_mem _ hi)
  obtain ⟨u1, u2, u3, _, u5⟩ := jlu false last k (v.headD ⟨#[]⟩) (recsT false ⟨#[]⟩ k t v.tail ++ r) (hl k (List.mem_cons_self ..)) fun h => (Bool.false_ne_true h).elim
  have c1 := (jbP last k).1
  rw [jcT, nqH]
  unfold gsN
  rw [u5, dF (show ¬ ((jae last k : Nat) : Int) > (last.size : Int) by omega), cond_false, u1, u2, u3, cond_false, ih, List.append_assoc]
  rfl
theorem jm2 {x : PgT} (h : pageB x = true) : (x.leaf = true → gsN true x.keys.length (tkR (tkR (pageV x) 1) 1) false ⟨#[]⟩ [] [] = (true, zerV (1700 - (bodyP x).size), false, x.keys, x.vals)) ∧
  (x.leaf = false → gsN false x.keys.length (tkR (tkR (pageV x) 1) 1) false ⟨#[]⟩ [] [] = (true, kidsT ⟨#[]⟩ x.kids ++ zerV (1700 - (bodyP x).size), false, x.keys, [])) := by
 obtain ⟨h1, h2, h3, h4, h5, h6⟩ := jbm h
 rw [jkZ h]
 refine ⟨fun hl => ?_, fun hl => ?_⟩
 ·obtain ⟨v1, v2, v3⟩ := h3 hl
  have hk : x.kids = [] := List.length_eq_zero_iff.1 v3
  rw [jbo _ _ (jal _ _).symm, jbo _ _ (jal _ _).symm, hk, hl]
  have : kidsT ⟨#[]⟩ [] ++ zerV (1700 - (bodyP x).size) = zerV (1700 - (bodyP x).size) := jbA _
  rw [this, jjx x.keys x.vals [] [] _ ⟨#[]⟩ h1 v1 v2]
  rfl
 ·rw [jbo _ _ (jal _ _).symm, jbo _ _ (jal _ _).symm, hl, jji x.keys x.vals [] [] _ ⟨#[]⟩ h1]
  rfl
theorem jlf (lf : Bool) {s : ByteArray} : ∀ (n : Nat) (r : ByteArray) (b : Bool) (last : ByteArray) (ks vs : List ByteArray), (∀ k ∈ ks, k.size ≤ 510) → (∀ v ∈ vs, v.size ≤ 255) → Suf s r →
  (∀ k ∈ (gsN lf n r b last ks vs).2.2.2.1, k.size ≤ 510) ∧ (∀ v ∈ (gsN lf n r b last ks vs).2.2.2.2, v.size ≤ 255) ∧ (gsN lf n r b last ks vs).2.2.2.1.length ≤ ks.length + n ∧ (gsN lf n r b last ks vs).2.2.2.2.length ≤ vs.length + n ∧ Suf s (gsN lf n r b last ks vs).2.1
 | 0, r, b, last, ks, vs, h1, h2, h3 => ⟨h1, h2, Nat.le_refl _, Nat.le_refl _, h3⟩
 | n + 1, r, b, last, ks, vs, h1, h2, h3 => by
  unfold gsN
  cases decide (oneV r > (last.size : Int)) with
  | true => exact ⟨h1, h2, Nat.le_add_right _ _, Nat.le_add_right _ _, Suf.tk (Suf.tk h3 _) _⟩
  | false =>
   rw [cond_false]
   have hv : ∀ v ∈ (bif lf then vs ++ [gV r] else vs), v.size ≤ 255 := by
    cases lf
    ·exact h2
    ·exact jeV h2 (gV_sz r)
   have hl : (bif lf then vs ++ [gV r] else vs).length ≤ vs.length + 1 := by
    cases lf
    ·exact Nat.le_add_right _ _
    ·rw [cond_true, jaw]; exact Nat.le_refl _
   have hs : Suf s (gR lf r) := by
    cases lf
    ·rw [gR_f]; exact Suf.t1 (Suf.tk h3 _)
    ·rw [gR_t]; exact Suf.t1 (Suf.t1 (Suf.tk h3 _))
   obtain ⟨a1, a2, a3, a4, a5⟩ := jlf lf n (gR lf r) (gB lf r b) (ukey r last) (ks ++ [ukey r last]) _ (jeV h1 (jbc r last)) hv hs
   rw [jaw] at a3
   exact ⟨a1, a2, by omega, by omega, a5⟩
theorem jkQ {lf : Bool} {m : Int} {s r : ByteArray} {b : Bool} (h : Suf s r) : gsA lf m s (posR s r) b = gsN lf (min m.toNat 7) r b ⟨#[]⟩ [] [] := by unfold gsA; rw [jbz h]
theorem jl2 {m : Int} {s r : ByteArray} {b : Bool} (h : Suf s r) : kdA m s (posR s r) b = kdN (min m.toNat 6 + 1) r b [] := by unfold kdA; rw [jbz h]
theorem joQ {s2 : ByteArray} {a : Int} (h0 : 0 ≤ a) (h1 : a ≤ s2.size) : Suf s2 (rst s2 a.toNat) ∧ posR s2 (rst s2 a.toNat) = a := by
 refine ⟨⟨a.toNat, by omega, rfl⟩, ?_⟩
 rw [jc9 (by omega)]
 omega
theorem joy : ∀ b ∈ jav (ja5 Tryz.f7), jbb Tryz.prog (tabL rib1) (OL ja2) Tryz.f7.ntmps (pbOf []) ja3 b := by
 refine jca [7, 19] (by kernel_rfl) (fun k hk => by
   simp only [List.mem_cons, List.not_mem_nil, or_false] at hk
   rcases hk with rfl | rfl <;> kernel_rfl) fun k hk => ?_
 simp only [List.mem_cons, List.not_mem_nil, or_false] at hk
 rcases hk with rfl | rfl
 ·refine ⟨jap (by kernel_rfl), ?_⟩
  intro ls e ls' hl
  replace hl : pickA (jhA ls) = some (e, ls') := hl
  unfold jhA at hl
  split at hl
  ·rename_i s x y s2 a b m z lf last i
   have hcore : (Nat.beq x 8192 && Nat.beq y 16384 && Nat.beq z 28672 && (i == 0) && decide (m ≤ 0)) = false → (Nat.beq x 8192 && Nat.beq y 16384 && Nat.beq z 28672 && (i == 0) && decide (0 ≤ m) && decide (m ≤ 255) && decide (0 ≤ a) && decide (a ≤ s2.size) && holds (s2.size ≤ 2000000) && Nat.beq last.size 0) = true →
     LoopsTo (rdB brC Tryz.prog rib1 ja2 ja3 Tryz.f7 7 []) [aS s, ((.ptr x 0, some (.box [.pv (.bool false), .pv .nils, .pv .nils, .pv .nils])) : AV × Option Ob), (.ptr y 0, some (.box [.pv (.str s2), .pv (.int .i64 a), .pv (.bool b)])), aI m, (.ptr z 0, some (.box [.pv (.bool lf), .pv .nils, .pv .nils, .pv .nils])), aS last, aI i]
     (if (gsA lf m s2 a b).1 = true then (.exit 0, [aS s, aG0 2 false, aX, aSr 4 s2 (posR s2 (gsA lf m s2 a b).2.1) (gsA lf m s2 a b).2.2.1, aI m, bif lf then aGL 7 (gsA lf m s2 a b).2.2.2.1 (gsA lf m s2 a b).2.2.2.2 else aGN 7 (gsA lf m s2 a b).2.2.2.1])
      else (.ret, [aS s, aG0 2 false, aB false, aSr 4 s2 (posR s2 (gsA lf m s2 a b).2.1) (gsA lf m s2 a b).2.2.1, aI m, aGS 7 lf (gsA lf m s2 a b).2.2.2.1 (gsA lf m s2 a b).2.2.2.2])) := fun hn hc => by
    obtain ⟨hc, k9⟩ := andE hc
    obtain ⟨hc, k8⟩ := andE hc
    obtain ⟨hc, k7⟩ := andE hc
    obtain ⟨hc, k6⟩ := andE hc
    obtain ⟨hc, k5⟩ := andE hc
    obtain ⟨hc, k4⟩ := andE hc
    rw [hc, Bool.true_and, decide_eq_false_iff_not] at hn
    obtain ⟨hc, k3⟩ := andE hc
    obtain ⟨hc, k2⟩ := andE hc
    obtain ⟨k0, k1⟩ := andE hc
    obtain rfl := nqB k0
    obtain rfl := nqB k1
    obtain rfl := nqB k2
    obtain rfl := jcm k9
    rw [eq_of_beq k3]
    obtain ⟨q1, q2⟩ := joQ (nqI k6) (nqI k7)
    have := jqd s s2 m (jaj k8) (by omega) lf (rst s2 a.toNat) b q1
    rw [q2] at this
    exact this
   rcases jpm hl with ⟨hc, he⟩ | ⟨hn, hc, he⟩ | ⟨hn, hn2, hc, he⟩ | ⟨hn, hn2, hn3, hc, he⟩
   ·cases he
    obtain ⟨hc, k4⟩ := andE hc
    obtain ⟨hc, k3⟩ := andE hc
    obtain ⟨hc, k2⟩ := andE hc
    obtain ⟨k0, k1⟩ := andE hc
    obtain rfl := nqB k0
    obtain rfl := nqB k1
    obtain rfl := nqB k2
    rw [eq_of_beq k3]
    refine .done _ _ ((jhf s s2 a b m lf last 0).trans ?_)
    try delta zzan2
    try delta zzan1
    try delta zzan0
    have k4 := nqI k4
    rw [dF (show ¬ (0 : Int) < m by omega)]
    rfl
   ·cases he
    obtain ⟨hc2, k7⟩ := andE hc
    obtain ⟨hc3, k8⟩ := andE hc2
    subst k8
    have := hcore hn hc3
    rw [k7, if_pos rfl] at this
    exact this
   ·cases he
    obtain ⟨hc2, k7⟩ := andE hc
    obtain ⟨hc3, k8⟩ := andE hc2
    have k8 : lf = false := by cases lf <;> first | rfl | cases k8
    subst k8
    have := hcore hn hc3
    rw [k7, if_pos rfl] at this
    exact this
   ·cases he
    have := hcore hn hc
    have e : (gsA lf m s2 a b).1 = false := by
     rw [hc, Bool.true_and] at hn2 hn3
     cases lf with
     | true => rw [Bool.true_and] at hn2; exact hn2
     | false => rw [Bool.not_false, Bool.true_and] at hn3; exact hn3
    rw [e, if_neg Bool.false_ne_true] at this
    exact this
  ·cases hl
 ·refine ⟨jap (by kernel_rfl), ?_⟩
  intro ls e ls' hl
  replace hl : pickA (jfG ls) = some (e, ls') := hl
  unfold jfG at hl
  split at hl
  ·rename_i s x y s2 a b m z lf i
   rcases pick2 hl with ⟨hc, he⟩ | ⟨hn, hc, he⟩
   ·cases he
    obtain ⟨hc, k4⟩ := andE hc
    obtain ⟨hc, k3⟩ := andE hc
    obtain ⟨hc, k2⟩ := andE hc
    obtain ⟨k0, k1⟩ := andE hc
    obtain rfl := nqB k0
    obtain rfl := nqB k1
    obtain rfl := nqB k2
    subst k4
    rw [eq_of_beq k3]
    refine .done _ _ ((jkX s s2 a b m true 0).trans ?_)
    cases decide ((0 : Int) ≤ m) <;> rfl
   ·cases he
    obtain ⟨hc, k9⟩ := andE hc
    obtain ⟨hc, k8⟩ := andE hc
    obtain ⟨hc, k7⟩ := andE hc
    obtain ⟨hc, k6⟩ := andE hc
    obtain ⟨hc, k5⟩ := andE hc
    obtain ⟨hc, k4⟩ := andE hc
    obtain ⟨hc, k3⟩ := andE hc
    obtain ⟨hc, k2⟩ := andE hc
    obtain ⟨k0, k1⟩ := andE hc
    obtain rfl := nqB k0
    obtain rfl := nqB k1
    obtain rfl := nqB k2
    have k4 : lf = false := by cases lf <;> first | rfl | cases k4
    subst k4
    rw [eq_of_beq k3]
    have k5 := nqI k5
    obtain ⟨q1, q2⟩ := joQ (nqI k7) (nqI k8)
    obtain ⟨m, rfl⟩ : ∃ j : Nat, m = (j : Int) := ⟨m.toNat, by omega⟩
    have := jqX s s2 m (jaj k9) (rst s2 a.toNat) b q1
    rw [q2] at this
    unfold kdA
    rw [nqF]
    exact this
  ·rename_i s x y s2 a b m z e n l e2 n2 l2 i
   obtain ⟨hc, he⟩ := pick1 hl
   cases he
   obtain ⟨hc, k7⟩ := andE hc
   obtain ⟨hc, k6⟩ := andE hc
   obtain ⟨hc, k5⟩ := andE hc
   obtain ⟨hc, k4⟩ := andE hc
   obtain ⟨hc, k3⟩ := andE hc
   obtain ⟨hc, k2⟩ := andE hc
   obtain ⟨k0, k1⟩ := andE hc
   obtain rfl := nqB k0
   obtain rfl := nqB k1
   obtain rfl := nqB k2
   obtain rfl := nqB k4
   obtain rfl := nqB k5
   obtain ⟨t, q_t, h_t⟩ := jao k6
   injection q_t with qa qb
   subst qa
   subst qb
   obtain ⟨t2, q_t, h_t⟩ := jao k7
   injection q_t with qa qb
   subst qa
   subst qb
   rw [eq_of_beq k3]
   refine .done _ _ ((jqW s s2 a b m t t2 0).trans ?_)
   cases decide ((0 : Int) ≤ m) <;> rfl
  ·rename_i s x y s2 a b m z e n l i
   obtain ⟨hc, he⟩ := pick1 hl
   cases he
   obtain ⟨hc, k10⟩ := andE hc
   obtain ⟨hc, k9⟩ := andE hc
   obtain ⟨hc, k8⟩ := andE hc
   obtain ⟨hc, k7⟩ := andE hc
   obtain ⟨hc, k6⟩ := andE hc
   obtain ⟨hc, k5⟩ := andE hc
   obtain ⟨hc, k4⟩ := andE hc
   obtain ⟨hc, k3⟩ := andE hc
   obtain ⟨hc, k2⟩ := andE hc
   obtain ⟨k0, k1⟩ := andE hc
   obtain rfl := nqB k0
   obtain rfl := nqB k1
   obtain rfl := nqB k2
   obtain rfl := nqB k4
   obtain ⟨t, q_t, h_t⟩ := jao k5
   injection q_t with qa qb
   subst qa
   subst qb
   rw [eq_of_beq k3]
   have k6 := nqI k6
   obtain ⟨q1, q2⟩ := joQ (nqI k8) (nqI k9)
   obtain ⟨m, rfl⟩ : ∃ j : Nat, m = (j : Int) := ⟨m.toNat, by omega⟩
   have := jrg s s2 t m (jaj k10) (rst s2 a.toNat) b q1
   rw [q2] at this
   unfold kdA
   rw [nqF]
   exact this
  ·cases hl
theorem jk3 {s : ByteArray} (x : PgT) (hno : ¬ isPgS s) (h0 : (ByteArray.toList s == ([] : List UInt8)) = false) : (ByteArray.toList (pageV x) == ByteArray.toList s) = false := by
 refine beq_eq_false_iff_ne.2 fun e => ?_
 have e : pageV x = s := ByteArray.ext (Array.ext' (by rw [← ByteArray.toList_eq, ← ByteArray.toList_eq]; exact e))
 by_cases hl : pageB x = true
 ·exact hno ⟨x, hl, e.symm⟩
 ·rw [jgB hl] at e
  rw [← e, show (ByteArray.toList (⟨#[]⟩ : ByteArray) == ([] : List UInt8)) = true from jbt []] at h0
  cases h0
theorem pg_nz {x : PgT} (h : pageB x = true) : (ByteArray.toList (pageV x) == ([] : List UInt8)) = false := by
 have := jcg h
 refine beq_eq_false_iff_ne.2 fun e => ?_
 rw [ByteArray.toList_eq, ← List.length_eq_zero_iff, ← jab] at e
 omega
theorem jtT (s : ByteArray) (hz : s.size ≤ 2000000) (hno : ¬ isPgS s) : q_sgp brC s = some (.tup [.agg [.pv (.bool false), .pv .nils, .pv .nils, .pv .nils], cB false], []) := by
 have tree := jma s
 revert tree; try delta zzaq3; intro tree
 revert tree; try delta zzaq2; intro tree
 revert tree; try delta zzaq1; intro tree
 revert tree; try delta zzaq0; intro tree
 have sf1 : Suf s (tkR s 1) := Suf.tk (Suf.all s) 1
 have sf2 : Suf s (tkR (tkR s 1) 1) := Suf.tk sf1 1
 have o2 := jaz (tkR s 1)
 rw [jif, jbz sf1, jkQ sf2, jkQ sf2, jl2 sf2, dT hz, jad hz, dT o2.1, dT o2.2, jbn, jbn, jbp, jbp] at tree
 obtain ⟨g1, g2, g3, g4, g5⟩ := jlf (s := s) true (min (oneV (tkR s 1)).toNat 7) (tkR (tkR s 1) 1) (tkB (tkR s 1) (tkB s false 1) 1) ⟨#[]⟩ [] [] (fun _ h => by cases h) (fun _ h => by cases h) sf2
 obtain ⟨f1, f2, f3, f4, f5⟩ := jlf (s := s) false (min (oneV (tkR s 1)).toNat 7) (tkR (tkR s 1) 1) (tkB (tkR s 1) (tkB s false 1) 1) ⟨#[]⟩ [] [] (fun _ h => by cases h) (fun _ h => by cases h) sf2
 generalize hX : gsN true (min (oneV (tkR s 1)).toNat 7) (tkR (tkR s 1) 1) (tkB (tkR s 1) (tkB s false 1) 1) ⟨#[]⟩ [] [] = X at g1 g2 g3 g4 g5 tree
 generalize hY : gsN false (min (oneV (tkR s 1)).toNat 7) (tkR (tkR s 1) 1) (tkB (tkR s 1) (tkB s false 1) 1) ⟨#[]⟩ [] [] = Y at f1 f2 f3 f4 f5 tree
 rw [List.length_nil] at g3 g4 f3 f4
 rw [jl2 f5, jbn, jbp] at tree
 obtain ⟨e1, e2⟩ := jlO (min (oneV (tkR s 1)).toNat 6 + 1) Y.2.1 Y.2.2.1 [] (fun _ h => by cases h)
 obtain ⟨d1, d2⟩ := jlO (min (oneV (tkR s 1)).toNat 6 + 1) (tkR (tkR s 1) 1) (tkB (tkR s 1) (tkB s false 1) 1) [] (fun _ h => by cases h)
 generalize hZ : kdN (min (oneV (tkR s 1)).toNat 6 + 1) Y.2.1 Y.2.2.1 [] = Z at e1 e2 tree
 generalize hU : kdN (min (oneV (tkR s 1)).toNat 6 + 1) (tkR (tkR s 1) 1) (tkB (tkR s 1) (tkB s false 1) 1) [] = U at d1 d2 tree
 rw [List.length_nil] at e2 d2
 have s1 : shPg ⟨false, [], [], U.2.2⟩ := ⟨⟨Nat.zero_le _, fun _ h => by cases h⟩, ⟨Nat.zero_le _, fun _ h => by cases h⟩, jjf d1 (show U.2.2.length ≤ 1000 by omega)⟩
 have s2 : shPg ⟨oneV s == 1, [], [], []⟩ := ⟨⟨Nat.zero_le _, fun _ h => by cases h⟩, ⟨Nat.zero_le _, fun _ h => by cases h⟩, ⟨Nat.zero_le _, fun _ h => by cases h⟩⟩
 have s3 : shPg ⟨true, X.2.2.2.1, X.2.2.2.2, []⟩ := ⟨jeB g1 (show X.2.2.2.1.length ≤ 1000 by omega) (by omega), jeB g2 (show X.2.2.2.2.length ≤ 1000 by omega) (by omega), ⟨Nat.zero_le _, fun _ h => by cases h⟩⟩
 have s4 : shPg ⟨false, Y.2.2.2.1, [], Z.2.2⟩ := ⟨jeB f1 (show Y.2.2.2.1.length ≤ 1000 by omega) (by omega), ⟨Nat.zero_le _, fun _ h => by cases h⟩, jjf e1 (show Z.2.2.length ≤ 1000 by omega)⟩
 have i1 : isPg (PV.agg [PV.bool false, PV.sl 0 [], PV.sl 0 [], PV.sl U.2.2.length (U.2.2.map (PV.int .i64))]) = true := pgI s1
 have i2 : isPg (PV.agg [PV.bool (oneV s == 1), PV.sl 0 [], PV.sl 0 [], PV.sl 0 []]) = true := pgI s2
 have i3 : isPg (PV.agg [PV.bool true, PV.sl X.2.2.2.1.length (X.2.2.2.1.map PV.str), PV.sl X.2.2.2.2.length (X.2.2.2.2.map PV.str), PV.sl 0 []]) = true := pgI s3
 have i4 : isPg (PV.agg [PV.bool false, PV.sl Y.2.2.2.1.length (Y.2.2.2.1.map PV.str), PV.sl 0 [], PV.sl Z.2.2.length (Z.2.2.map (PV.int .i64))]) = true := pgI s4
 have a1 : asPg (PV.agg [PV.bool false, PV.sl 0 [], PV.sl 0 [], PV.sl U.2.2.length (U.2.2.map (PV.int .i64))]) = ⟨false, [], [], U.2.2⟩ := pgA ⟨false, [], [], U.2.2⟩
 have a2 : asPg (PV.agg [PV.bool (oneV s == 1), PV.sl 0 [], PV.sl 0 [], PV.sl 0 []]) = ⟨oneV s == 1, [], [], []⟩ := pgA ⟨oneV s == 1, [], [], []⟩
 have a3 : asPg (PV.agg [PV.bool true, PV.sl X.2.2.2.1.length (X.2.2.2.1.map PV.str), PV.sl X.2.2.2.2.length (X.2.2.2.2.map PV.str), PV.sl 0 []]) = ⟨true, X.2.2.2.1, X.2.2.2.2, []⟩ := pgA ⟨true, X.2.2.2.1, X.2.2.2.2, []⟩
 have a4 : asPg (PV.agg [PV.bool false, PV.sl Y.2.2.2.1.length (Y.2.2.2.1.map PV.str), PV.sl 0 [], PV.sl Z.2.2.length (Z.2.2.map (PV.int .i64))]) = ⟨false, Y.2.2.2.1, [], Z.2.2⟩ := pgA ⟨false, Y.2.2.2.1, [], Z.2.2⟩
 have m0 : holds (smK ([] : List ByteArray)) = true := jad fun _ h => by cases h
 have l1 : isL (PV.sl X.2.2.2.1.length (X.2.2.2.1.map PV.str)) = true := jar s3.1
 have l2 : isL (PV.sl X.2.2.2.2.length (X.2.2.2.2.map PV.str)) = true := jar s3.2.1
 have l3 : isL (PV.sl Y.2.2.2.1.length (Y.2.2.2.1.map PV.str)) = true := jar s4.1
 rw [i1, i2, i3, i4, a1, a2, a3, a4, m0, jad (jli g1), jad (jli f1), l1, l2, l3] at tree
 cases h0 : (ByteArray.toList s == ([] : List UInt8)) with
 | true =>
  rw [h0] at tree
  refine tree.trans ?_
  generalize (oneV s == 1) = lf
  generalize tkB (tkR s 1) (tkB s false 1) 1 = b0
  generalize U.2.1 = b1
  generalize X.2.2.1 = b2
  generalize Z.2.1 = b3
  generalize decide (oneV (tkR s 1) ≤ 0) = c0
  generalize X.1 = c1
  generalize Y.1 = c2
  generalize (ByteArray.toList (pageV ⟨false, [], [], U.2.2⟩) == ByteArray.toList s) = p1
  generalize (ByteArray.toList (pageV ⟨lf, [], [], []⟩) == ByteArray.toList s) = p2
  generalize (ByteArray.toList (pageV ⟨true, X.2.2.2.1, X.2.2.2.2, []⟩) == ByteArray.toList s) = p3
  generalize (ByteArray.toList (pageV ⟨false, Y.2.2.2.1, [], Z.2.2⟩) == ByteArray.toList s) = p4
  cases lf <;> cases c0 <;> cases c1 <;> cases c2 <;> (first | rfl | (cases b0 <;> cases p2 <;> rfl) | (cases b1 <;> cases p1 <;> rfl) | (cases b2 <;> cases p3 <;> rfl) | (cases b3 <;> cases p4 <;> rfl))
 | false =>
  rw [h0, jk3 _ hno h0, jk3 _ hno h0, jk3 _ hno h0, jk3 _ hno h0] at tree
  refine tree.trans ?_
  generalize (oneV s == 1) = lf
  generalize tkB (tkR s 1) (tkB s false 1) 1 = b0
  generalize U.2.1 = b1
  generalize X.2.2.1 = b2
  generalize Z.2.1 = b3
  generalize decide (oneV (tkR s 1) ≤ 0) = c0
  generalize X.1 = c1
  generalize Y.1 = c2
  cases lf <;> cases c0 <;> cases c1 <;> cases c2 <;> (first | rfl | (cases b0 <;> rfl) | (cases b1 <;> rfl) | (cases b2 <;> rfl) | (cases b3 <;> rfl))
theorem jsE {x : PgT} (h : pageB x = true) : q_sgp brC (pageV x) = some (yP x, []) := by
 have tree := jma (pageV x)
 revert tree; try delta zzaq3; intro tree
 revert tree; try delta zzaq2; intro tree
 revert tree; try delta zzaq1; intro tree
 revert tree; try delta zzaq0; intro tree
 obtain ⟨p1, p2, p3, p4', p5, p6⟩ := jcf h
 obtain ⟨p4, p7⟩ := jm2 h
 obtain ⟨hsh, hsm⟩ := jjK h
 obtain ⟨h1, h2, h3, h4, h5, h6⟩ := jbm h
 have hs := jcg h
 have hz : (pageV x).size ≤ 2000000 := by omega
 have sf1 : Suf (pageV x) (tkR (pageV x) 1) := Suf.tk (Suf.all _) 1
 have sf2 : Suf (pageV x) (tkR (tkR (pageV x) 1) 1) := Suf.tk sf1 1
 have m0 : holds (smK ([] : List ByteArray)) = true := jad fun _ h => by cases h
 have t0 := jiI (x := x)
 have n0 := pg_nz h
 have hmin : min x.keys.length 7 = x.keys.length := by omega
 rw [jif, jbz sf1, jkQ sf2, jkQ sf2, jl2 sf2, dT hz, jad hz, jbn, jbn, jbp, jbp, p1, p2, p3, nqF, hmin, dT (show (0 : Int) ≤ (x.keys.length : Int) by omega), dT (show (x.keys.length : Int) ≤ 255 by omega)] at tree
 cases hl : x.leaf with
 | true =>
  have p4 := p4 hl
  have p6 := p6 hl
  obtain ⟨v1, v2, v3⟩ := h3 hl
  by_cases hk : x.keys.length = 0
  ·have ek : x.keys = [] := List.length_eq_zero_iff.1 hk
   have ev : x.vals = [] := List.length_eq_zero_iff.1 (by omega)
   have ex : x = ⟨true, [], [], []⟩ := by
    cases x
    dsimp only at hl ek ev p6
    rw [hl, ek, ev, p6]
   have i2 : isPg (PV.agg [PV.bool true, PV.sl 0 [], PV.sl 0 [], PV.sl 0 []]) = true := by rw [ex] at hsh; exact pgI hsh
   have a2 : asPg (PV.agg [PV.bool true, PV.sl 0 [], PV.sl 0 [], PV.sl 0 []]) = x := by rw [ex]; exact pgA ⟨true, [], [], []⟩
   rw [hl, i2, a2, t0, n0, ek, m0, dT (show ((List.length ([] : List ByteArray) : Nat) : Int) ≤ 0 by simp)] at tree
   refine tree.trans ?_
   unfold yP
   rw [hl, ek]
   rfl
  ·have hkz : Nat.beq x.keys.length 0 = false := Bool.eq_false_iff.2 fun e => hk (nqB e)
   have i3 : isPg (PV.agg [PV.bool true, PV.sl x.keys.length (x.keys.map PV.str), PV.sl x.vals.length (x.vals.map PV.str), PV.sl 0 []]) = true := by
    have := pgI hsh
    rw [hl, p6] at this
    exact this
   have a3 : asPg (PV.agg [PV.bool true, PV.sl x.keys.length (x.keys.map PV.str), PV.sl x.vals.length (x.vals.map PV.str), PV.sl 0 []]) = x := by
    have := pgA x
    rw [hl, p6] at this
    exact this
   rw [hl, dF (show ¬ (x.keys.length : Int) ≤ 0 by omega), p4] at tree
   dsimp only at tree
   rw [i3, a3, t0, n0, jad hsm, show isL (PV.sl x.keys.length (x.keys.map PV.str)) = true from jar hsh.1, show isL (PV.sl x.vals.length (x.vals.map PV.str)) = true from jar hsh.2.1] at tree
   refine tree.trans ?_
   unfold yP
   rw [hl, hkz]
   rfl
 | false =>
  obtain ⟨c1, c2, c3, c4⟩ := p5 hl
  have p7 := p7 hl
  have hk := jiH h hl
  have i4 : isPg (PV.agg [PV.bool false, PV.sl x.keys.length (x.keys.map PV.str), PV.sl 0 [], PV.sl x.kids.length (x.kids.map (PV.int .i64))]) = true := by
   have := pgI hsh
   rw [hl, c4] at this
   exact this
  have a4 : asPg (PV.agg [PV.bool false, PV.sl x.keys.length (x.keys.map PV.str), PV.sl 0 [], PV.sl x.kids.length (x.kids.map (PV.int .i64))]) = x := by
   have := pgA x
   rw [hl, c4] at this
   exact this
  have sf3 : Suf (pageV x) (kidsT ⟨#[]⟩ x.kids ++ zerV (1700 - (bodyP x).size)) := by
   have := (jlf (s := pageV x) false x.keys.length (tkR (tkR (pageV x) 1) 1) false ⟨#[]⟩ [] [] (fun _ h => by cases h) (fun _ h => by cases h) sf2).2.2.2.2
   rw [p7] at this
   exact this
  have hmin2 : min x.keys.length 6 + 1 = x.keys.length + 1 := by omega
  rw [hl, dF (show ¬ (x.keys.length : Int) ≤ 0 by omega), p7] at tree
  dsimp only at tree
  rw [jl2 sf3, jbn, jbp, nqF, hmin2, c3] at tree
  dsimp only at tree
  rw [i4, a4, t0, n0, jad hsm, show isL (PV.sl x.keys.length (x.keys.map PV.str)) = true from jar hsh.1] at tree
  refine tree.trans ?_
  unfold yP
  rw [hl]
  rfl
theorem juh : jac Tryz.prog 7 E_gp := jag mix jtk (lp := ja2) (LO := ja3) ⟨Tryz.func7, by kernel_rfl, by kernel_rfl⟩ (by kernel_rfl) fun ivs res bxs h => by
 have hh := h
 unfold E_gp at h
 split at h
 ·rename_i s
  exact ⟨joy, jl8 (q := q_sgp brC) (fun s hz hno => jtT s hz hno) (fun x hx => jsE hx) hh⟩
 ·cases h
end
section
open Go.RowKit
def mkN : Int → List Int → List Int
 | _, [] => []
 | k, _ :: t => k :: mkN (k + 1) t
abbrev jfY : List (Nat × List Nat × List Nat) := [(4, [0, 1, 5], [0, 4])]
def jfS (ls : LS) : List (Bool × Ex × LS) := match ls with
 | [(.pv p, none), (.pv q, none), (.pv (.int .i64 i), none)] =>
  [(isI p && isI q && (i == 0) && decide ((asI p).length = (asI q).length) && holds (asI p = asI q), .exit 0, [aP p, aX]),
   (isI p && isI q && (i == 0) && decide ((asI p).length = (asI q).length), .ret, [aP p, aB false])]
 | _ => []
def jfQ : LoopT := fun k ls => bif Nat.beq k 4 then jfS ls else []
def jt0 (br : Br) (l u : List Int) (i : Int) := rdB br Tryz.prog [] jfY jfQ Tryz.f45 4 [] [aP (pI l), aP (pI u), aI i]
def jtN (br : Br) (l u : List Int) := evB br Tryz.prog [] jfY jfQ Tryz.f45 [cP (pI l), cP (pI u)]
def E_eqIt : Entry := fun ivs => match ivs with
 | [.cv (.pv p), .cv (.pv q)] => [(isI p && isI q, cB (holds (asI p = asI q)), [])]
 | _ => []
abbrev jeH : List (Nat × List Nat × List Nat) := [(2, [0, 1, 5], [0, 1])]
abbrev aWN (l : List Int) : AV × Option Ob := (.own 0, some (.lst 1 2 l.length (l.map (.int .i64)) true))
def jh7 (ls : LS) : List (Bool × Ex × LS) := match ls with
 | [(.own x, some (.lst 1 e n l true)), (.pv (.int .i64 k), none), (.pv (.int .i64 i), none)] =>
  [(isI (.sl n l) && Nat.beq e 2 && Nat.beq x 0 && (i == 0) && decide (1 ≤ k) && holds (k ≤ 900000000), .exit 0, [aWN (mkN k (asI (.sl n l))), aI (k + (asI (.sl n l)).length)])]
 | _ => []
def jkS : LoopT := fun k ls => bif Nat.beq k 2 then jh7 ls else []
def jdA (ls : LS) : List (Bool × Ex × LS) := match ls with
 | [(.pv (.sl n l), none), (.pv (.int .i64 k), none), (.pv (.int .i64 i), none)] =>
  [(Nat.beq n 0 && nilB l && (i == 0), .exit 0, [aP (.sl 0 []), aI k])]
 | _ => []
def jeG : LoopT := fun k ls => bif Nat.beq k 2 then jdA ls else []
def r_mkN (br : Br) (l : List Int) (k i : Int) := rdB br Tryz.prog [] jeH jkS Tryz.f47 2 [0] [aWN l, aI k, aI i]
def q_mkN (br : Br) (l : List Int) (k : Int) := evB br Tryz.prog [] jeH jkS Tryz.f47 [.lk false [] 1 2 l.length (l.map (.int .i64)) [], cI k]
def juy (br : Br) (k i : Int) := rdB br Tryz.prog [] jeH jeG Tryz.f47 2 [] [aP (.sl 0 []), aI k, aI i]
def jt3 (br : Br) (k : Int) := evB br Tryz.prog [] jeH jeG Tryz.f47 [cP (.sl 0 []), cI k]
def juu (br : Br) (k i : Int) := rdB br Tryz.prog kfb0 jeA jeG Tryz.f46 2 [] [aP (.sl 0 []), aI k, aI i]
def jum (br : Br) (k : Int) := evB br Tryz.prog kfb0 jeA jeG Tryz.f46 [cP (.sl 0 []), cI k]
def E_mkNa : Entry := fun ivs => match ivs with
 | [.lk false [] 1 e n l [], .cv (.pv (.int .i64 k))] => [(isI (.sl n l) && Nat.beq e 2 && decide (1 ≤ k) && holds (k ≤ 900000000), cI (k + (asI (.sl n l)).length), [[.lst 1 2 n ((mkN k (asI (.sl n l))).map (.int .i64)) true]])]
 | _ => []
def E_mkNn : Entry := fun ivs => match ivs with
 | [.cv (.pv (.sl n l)), .cv (.pv (.int .i64 k))] => [(Nat.beq n 0 && nilB l, cI k, [])]
 | _ => []
def E_mkN : Entry := fun ivs => E_mkNa ivs ++ E_mkNn ivs
def E_mkS2 : Entry := fun ivs => E_mkS ivs ++ E_mkNn ivs
abbrev jkP : List (Nat × List Nat × List Nat) := [(2, [0, 1, 5], [1])]
def jh8 (ls : LS) : List (Bool × Ex × LS) := match ls with
 | [(.pv p, none), (.pv (.int .i64 k), none), (.pv (.int .i64 i), none)] =>
  [(isI p && (i == 0) && decide (1 ≤ k) && holds (k ≤ 900000000) && holds (asI p = mkN k (asI p)), .exit 0, [aI (k + (asI p).length)])]
 | _ => []
def jlb : LoopT := fun k ls => bif Nat.beq k 2 then jh8 ls else []
def r_hdN (br : Br) (l : List Int) (k i : Int) := rdB br Tryz.prog [] jkP jlb Tryz.f49 2 [] [aP (pI l), aI k, aI i]
def q_hdN (br : Br) (l : List Int) (k : Int) := evB br Tryz.prog [] jkP jlb Tryz.f49 [cP (pI l), cI k]
def E_hdN : Entry := fun ivs => match ivs with
 | [.cv (.pv p), .cv (.pv (.int .i64 k))] => [(isI p && decide (1 ≤ k) && holds (k ≤ 900000000) && holds (asI p = mkN k (asI p)), cI (k + (asI p).length), [])]
 | _ => []
def rjb0 : List (FuncId × Entry) := (44, E_eqSt) :: [(45, E_eqIt)]
def jtR (br : Br) (x y : PgT) := evB br Tryz.prog rjb0 [] LO0 Tryz.f9 [cP (pPg x), cP (pPg y)]
def E_eqPg : Entry := fun ivs => match ivs with
 | [.cv (.pv p), .cv (.pv q)] => [(isPg p && isPg q, cB (holds (asPg p = asPg q)), [])]
 | _ => []
def mkPg (k : Int) (x : PgT) : PgT := ⟨x.leaf, mkL k x.keys, mkL (k + x.keys.length) x.vals, mkN (k + x.keys.length + x.vals.length) x.kids⟩
def rjb1 : List (FuncId × Entry) := (46, E_mkS2) :: [(47, E_mkN)]
abbrev jhH : List (Nat × List Nat × List Nat) := [(1000000, [], [2, 6, 10, 14]), (1000001, [1600128, 1600192, 1600256], [])]
def jsc (br : Br) (a : Bool) (ks vs : List ByteArray) (k : Int) := evB br Tryz.prog rjb1 jhH LO0 Tryz.f10 [.lag [.pv (.bool a), cLs ks, cLs vs, .pv .nils], cI k]
def jsU (br : Br) (a : Bool) (ks : List ByteArray) (cs : List Int) (k : Int) := evB br Tryz.prog rjb1 jhH LO0 Tryz.f10 [.lag [.pv (.bool a), cLs ks, .pv .nils, cLi cs], cI k]
def jsZ (br : Br) (a : Bool) (k : Int) := evB br Tryz.prog rjb1 jhH LO0 Tryz.f10 [.lag [.pv (.bool a), .pv .nils, .pv .nils, .pv .nils], cI k]
def E_mkPg : Entry := fun ivs => match ivs with
 | [.lag [.pv (.bool a), .lst 1 e n l true, .lst 1 f m u true, .pv .nils], .cv (.pv (.int .i64 k))] =>
  [(isL (.sl n l) && isL (.sl m u) && Nat.beq e 9 && Nat.beq f 9 && (k == 1), cI (1 + n + m), [[.pv (.bool a), .lst 1 9 n ((mkL 1 (asL (.sl n l))).map .str) true, .lst 1 9 m ((mkL (1 + n) (asL (.sl m u))).map .str) true, .pv .nils]])]
 | [.lag [.pv (.bool a), .lst 1 e n l true, .pv .nils, .lst 1 f m u true], .cv (.pv (.int .i64 k))] =>
  [(isL (.sl n l) && isI (.sl m u) && Nat.beq e 9 && Nat.beq f 2 && (k == 1), cI (1 + n + m), [[.pv (.bool a), .lst 1 9 n ((mkL 1 (asL (.sl n l))).map .str) true, .pv .nils, .lst 1 2 m ((mkN (1 + n) (asI (.sl m u))).map (.int .i64)) true]])]
 | [.lag [.pv (.bool a), .pv .nils, .pv .nils, .pv .nils], .cv (.pv (.int .i64 k))] => [(k == 1, cI 1, [[.pv (.bool a), .pv .nils, .pv .nils, .pv .nils]])]
 | _ => []
def rjb2 : List (FuncId × Entry) := (48, E_hdS) :: [(49, E_hdN)]
def jux (br : Br) (x : PgT) (k : Int) := evB br Tryz.prog rjb2 [] LO0 Tryz.f11 [cP (pPg x), cI k]
def E_hdPg : Entry := fun ivs => match ivs with
 | [.cv (.pv p), .cv (.pv (.int .i64 k))] => [(isPg p && (k == 1) && holds (asPg p = mkPg 1 (asPg p)), cI (1 + (asPg p).keys.length + (asPg p).vals.length + (asPg p).kids.length), [])]
 | _ => []
def E_gA : Entry := fun ivs => match ivs with
 | [.cv (.pv (.str s))] => [(decide (s.size ≤ 2000000) && holds (isPgS s) && (decP s).leaf && Nat.beq (decP s).keys.length 0, .tup [.agg [.pv (.bool true), .pv .nils, .pv .nils, .pv .nils], cB true], [])]
 | _ => []
def E_gB : Entry := fun ivs => match ivs with
 | [.cv (.pv (.str s))] => [(decide (s.size ≤ 2000000) && holds (isPgS s) && (decP s).leaf && !Nat.beq (decP s).keys.length 0, .tup [.agg [.pv (.bool true), cLs (decP s).keys, cLs (decP s).vals, .pv .nils], cB true], [])]
 | _ => []
def E_gC : Entry := fun ivs => match ivs with
 | [.cv (.pv (.str s))] => [(decide (s.size ≤ 2000000) && holds (isPgS s) && !(decP s).leaf, .tup [.agg [.pv (.bool false), cLs (decP s).keys, .pv .nils, cLi (decP s).kids], cB true], [])]
 | _ => []
def E_gD : Entry := fun ivs => match ivs with
 | [.cv (.pv (.str s))] => [(decide (s.size ≤ 2000000) && !holds (isPgS s), .tup [.agg [.pv (.bool false), .pv .nils, .pv .nils, .pv .nils], cB false], [])]
 | _ => []
def rjb3 (E : Entry) : List (FuncId × Entry) := (7, E) :: (8, E) :: (9, E_eqPg) :: (10, E_mkPg) :: [(11, E_hdPg)]
abbrev jei : List (Nat × List Nat × List Nat) := [(1000000, [], [24, 25, 33, 36, 49, 50, 58]), (1000001, [1700560], [])]
def jrF (br : Br) (s : ByteArray) := evB br Tryz.prog (rjb3 E_gA) jei LO0 Tryz.f3 [cS s]
def jrE (br : Br) (s : ByteArray) := evB br Tryz.prog (rjb3 E_gB) jei LO0 Tryz.f3 [cS s]
def jrM (br : Br) (s : ByteArray) := evB br Tryz.prog (rjb3 E_gC) jei LO0 Tryz.f3 [cS s]
def jrt (br : Br) (s : ByteArray) := evB br Tryz.prog (rjb3 E_gD) jei LO0 Tryz.f3 [cS s]
end
end
end Go.Proofs.YtnjecdcbaeeeoaaGreatDoor
