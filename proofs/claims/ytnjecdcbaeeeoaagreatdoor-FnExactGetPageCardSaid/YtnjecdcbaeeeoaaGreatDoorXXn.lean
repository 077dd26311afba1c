import Derived.Test.YtnjecdcbaeeeoaaGreatDoorXXm
import Derived.Test.YtnjecdcbaeeeoaaGreatDoorXXe
import Derived.Test.YtnjecdcbaeeeoaaGreatDoorXXg
import Derived.ChangeSlices
import Derived.WideShapes
import Derived.OpenShut
namespace Go.Proofs.YtnjecdcbaeeeoaaGreatDoor
noncomputable section
set_option linter.unusedVariables false
set_option maxRecDepth 100000
set_option linter.unusedSimpArgs false
section
theorem jo1 (k : Int) (i : Int) : juy brC k i =
 brC (decide (i < (↑0 : Int)))
 (brC (decide (0 ≤ i) && decide (i < (↑0 : Int)))
 none
 none)
 (some (.inr (.exit 0, [(.pv (.sl 0 []), none), (.pv (.int .i64 k), none)]))) := by kernel_rfl
theorem jiM (l : List Int) (u : List Int) (i : Int) : jt0 brC l u i =
 brC (decide (i < (↑(List.length l) : Int)))
 (brC (decide (0 ≤ i) && decide (i < (↑(List.length l) : Int)))
 (brC (Nat.blt 0 (List.length (List.drop (Int.toNat i * 1) (List.map (PV.int .i64) l))) && PV.isInt .i64 (List.headD (List.drop (Int.toNat i * 1) (List.map (PV.int .i64) l)) PV.nilp) && true)
 (brC (decide (0 ≤ i) && decide (i < (↑(List.length u) : Int)))
 (brC (Nat.blt 0 (List.length (List.drop (Int.toNat i * 1) (List.map (PV.int .i64) u))) && PV.isInt .i64 (List.headD (List.drop (Int.toNat i * 1) (List.map (PV.int .i64) u)) PV.nilp) && true)
 (brC (PV.asInt (List.headD (List.drop (Int.toNat i * 1) (List.map (PV.int .i64) l)) PV.nilp) != PV.asInt (List.headD (List.drop (Int.toNat i * 1) (List.map (PV.int .i64) u)) PV.nilp))
 (some (.inr (.ret, [(.pv (.sl (List.length l) (List.map (PV.int .i64) l)), none), (.pv (.bool false), none)])))
 (some (.inl [(.pv (.sl (List.length l) (List.map (PV.int .i64) l)), none), (.pv (.sl (List.length u) (List.map (PV.int .i64) u)), none), (.pv (.int .i64 (IntKind.wrap .i64 (i + 1))), none)])))
 none)
 none)
 none)
 none)
 (some (.inr (.exit 0, [(.pv (.sl (List.length l) (List.map (PV.int .i64) l)), none), (.bad, none)]))) := by kernel_rfl
theorem jpi (k : Int) (i : Int) : juu brC k i =
 brC (decide (i < (↑0 : Int)))
 (brC (decide (1 ≤ k) && holds (k ≤ 1000000000))
 (brC (decide (0 ≤ i) && decide (i < (↑0 : Int)))
 none
 none)
 none)
 (some (.inr (.exit 0, [(.pv (.sl 0 []), none), (.pv (.int .i64 k), none)]))) := by kernel_rfl
theorem jnk (a : Bool) (ks : List ByteArray) (cs : List Int) (k : Int) : jsU brC a ks cs k =
 brC (isL (PV.sl (List.length ks) (List.map PV.str ks)) && Nat.beq 9 9 && decide (1 ≤ k) && holds (k ≤ 900000000))
 (brC (Nat.beq 0 0 && nilB [])
 (brC (isI (PV.sl (List.length cs) (List.map (PV.int .i64) cs)) && Nat.beq 2 2 && decide (1 ≤ k + (↑(List.length (asL (PV.sl (List.length ks) (List.map PV.str ks)))) : Int)) && holds (k + (↑(List.length (asL (PV.sl (List.length ks) (List.map PV.str ks)))) : Int) ≤ 900000000))
 (brC (Nat.beq (List.length ks) (List.length ks) && (Nat.beq (List.length cs) (List.length cs) && true))
 (some ((.cv (.pv (.int .i64 (k + (↑(List.length (asL (PV.sl (List.length ks) (List.map PV.str ks)))) : Int) + (↑(List.length (asI (PV.sl (List.length cs) (List.map (PV.int .i64) cs)))) : Int)))), [[.pv (.bool a), .lst 1 9 (List.length ks) (List.map PV.str (mkL k (asL (PV.sl (List.length ks) (List.map PV.str ks))))) true, .pv .nils, .lst 1 2 (List.length cs) (List.map (PV.int .i64) (mkN (k + (↑(List.length (asL (PV.sl (List.length ks) (List.map PV.str ks)))) : Int)) (asI (PV.sl (List.length cs) (List.map (PV.int .i64) cs))))) true]])))
 none)
 none)
 none)
 none := by kernel_rfl
theorem jn8 (x : PgT) (y : PgT) : jtR brC x y =
 brC (!PgT.leaf x == PgT.leaf y)
 (some ((.cv (.pv (.bool false)), [])))
 (brC (isL (PV.sl (List.length (PgT.keys x)) (List.map PV.str (PgT.keys x))) && isL (PV.sl (List.length (PgT.keys y)) (List.map PV.str (PgT.keys y))))
 (brC (!holds (asL (PV.sl (List.length (PgT.keys x)) (List.map PV.str (PgT.keys x))) = asL (PV.sl (List.length (PgT.keys y)) (List.map PV.str (PgT.keys y)))))
 (some ((.cv (.pv (.bool false)), [])))
 (brC (isL (PV.sl (List.length (PgT.vals x)) (List.map PV.str (PgT.vals x))) && isL (PV.sl (List.length (PgT.vals y)) (List.map PV.str (PgT.vals y))))
 (brC (!holds (asL (PV.sl (List.length (PgT.vals x)) (List.map PV.str (PgT.vals x))) = asL (PV.sl (List.length (PgT.vals y)) (List.map PV.str (PgT.vals y)))))
 (some ((.cv (.pv (.bool false)), [])))
 (brC (isI (PV.sl (List.length (PgT.kids x)) (List.map (PV.int .i64) (PgT.kids x))) && isI (PV.sl (List.length (PgT.kids y)) (List.map (PV.int .i64) (PgT.kids y))))
 (brC (!holds (asI (PV.sl (List.length (PgT.kids x)) (List.map (PV.int .i64) (PgT.kids x))) = asI (PV.sl (List.length (PgT.kids y)) (List.map (PV.int .i64) (PgT.kids y)))))
 (some ((.cv (.pv (.bool false)), [])))
 (some ((.cv (.pv (.bool true)), []))))
 none))
 none))
 none) := by kernel_rfl
theorem jlD (l : List Int) (k : Int) (i : Int) : r_mkN brC l k i =
 brC (decide (i < (↑(List.length l) : Int)))
 (brC (decide (0 ≤ i) && decide (i < (↑(List.length l) : Int)))
 (brC (Nat.beq (List.length [PV.int .i64 k]) 1 && Nat.ble (Int.toNat i * 1 + 1) (List.length (List.map (PV.int .i64) l)))
 (some (.inl [(.own 0, some (.lst 1 2 (List.length l) (List.take (Int.toNat i * 1) (List.map (PV.int .i64) l) ++ [PV.int .i64 k] ++ List.drop (Int.toNat i * 1 + 1) (List.map (PV.int .i64) l)) true)), (.pv (.int .i64 (IntKind.wrap .i64 (k + 1))), none), (.pv (.int .i64 (IntKind.wrap .i64 (i + 1))), none)]))
 none)
 none)
 (some (.inr (.exit 0, [(.own 0, some (.lst 1 2 (List.length l) (List.map (PV.int .i64) l) true)), (.pv (.int .i64 k), none)]))) := by kernel_rfl
def zzaz0 (x : PgT) (k : Int) := (↑(List.length (asL (PV.sl (List.length (PgT.keys x)) (List.map PV.str (PgT.keys x))))) : Int)
theorem jpS (x : PgT) (k : Int) : jux brC x k =
 brC (isL (PV.sl (List.length (PgT.keys x)) (List.map PV.str (PgT.keys x))) && decide (1 ≤ k) && holds (k ≤ 900000000) && holds (asL (PV.sl (List.length (PgT.keys x)) (List.map PV.str (PgT.keys x))) = mkL k (asL (PV.sl (List.length (PgT.keys x)) (List.map PV.str (PgT.keys x))))))
 (brC (decide (k + (zzaz0 x k) < 0))
 (some ((.cv (.pv (.int .i64 (Int.negSucc 0))), [])))
 (brC (isL (PV.sl (List.length (PgT.vals x)) (List.map PV.str (PgT.vals x))) && decide (1 ≤ k + (zzaz0 x k)) && holds (k + (zzaz0 x k) ≤ 900000000) && holds (asL (PV.sl (List.length (PgT.vals x)) (List.map PV.str (PgT.vals x))) = mkL (k + (zzaz0 x k)) (asL (PV.sl (List.length (PgT.vals x)) (List.map PV.str (PgT.vals x))))))
 (brC (decide (k + (zzaz0 x k) + (↑(List.length (asL (PV.sl (List.length (PgT.vals x)) (List.map PV.str (PgT.vals x))))) : Int) < 0))
 (some ((.cv (.pv (.int .i64 (Int.negSucc 0))), [])))
 (brC (isI (PV.sl (List.length (PgT.kids x)) (List.map (PV.int .i64) (PgT.kids x))) && decide (1 ≤ k + (zzaz0 x k) + (↑(List.length (asL (PV.sl (List.length (PgT.vals x)) (List.map PV.str (PgT.vals x))))) : Int)) && holds (k + (zzaz0 x k) + (↑(List.length (asL (PV.sl (List.length (PgT.vals x)) (List.map PV.str (PgT.vals x))))) : Int) ≤ 900000000) && holds (asI (PV.sl (List.length (PgT.kids x)) (List.map (PV.int .i64) (PgT.kids x))) = mkN (k + (zzaz0 x k) + (↑(List.length (asL (PV.sl (List.length (PgT.vals x)) (List.map PV.str (PgT.vals x))))) : Int)) (asI (PV.sl (List.length (PgT.kids x)) (List.map (PV.int .i64) (PgT.kids x))))))
 (brC (decide (k + (zzaz0 x k) + (↑(List.length (asL (PV.sl (List.length (PgT.vals x)) (List.map PV.str (PgT.vals x))))) : Int) + (↑(List.length (asI (PV.sl (List.length (PgT.kids x)) (List.map (PV.int .i64) (PgT.kids x))))) : Int) < 0))
 (some ((.cv (.pv (.int .i64 (Int.negSucc 0))), [])))
 (some ((.cv (.pv (.int .i64 (k + (zzaz0 x k) + (↑(List.length (asL (PV.sl (List.length (PgT.vals x)) (List.map PV.str (PgT.vals x))))) : Int) + (↑(List.length (asI (PV.sl (List.length (PgT.kids x)) (List.map (PV.int .i64) (PgT.kids x))))) : Int)))), []))))
 none))
 none))
 none := by kernel_rfl
def zzba0 (s : ByteArray) := (PV.agg [PV.bool true, PV.sl (List.length (PgT.keys (decP s))) (List.map PV.str (mkL 1 (asL (PV.sl (List.length (PgT.keys (decP s))) (List.map PV.str (PgT.keys (decP s))))))), PV.sl (List.length (PgT.vals (decP s))) (List.map PV.str (mkL (1 + (↑(List.length (PgT.keys (decP s))) : Int)) (asL (PV.sl (List.length (PgT.vals (decP s))) (List.map PV.str (PgT.vals (decP s))))))), PV.sl 0 []])
def zzba1 (s : ByteArray) := (PV.agg [PV.bool true, PV.sl (List.length (PgT.keys (decP s))) (List.map PV.str (PgT.keys (decP s))), PV.sl (List.length (PgT.vals (decP s))) (List.map PV.str (PgT.vals (decP s))), PV.sl 0 []])
theorem jn3 (s : ByteArray) : jrE brC s =
 brC (decide ((↑(ByteArray.size s) : Int) > 1048576))
 (some ((.cv (.pv (.bool true)), [])))
 (brC (decide (ByteArray.size s ≤ 2000000) && holds (isPgS s) && PgT.leaf (decP s) && !Nat.beq (List.length (PgT.keys (decP s))) 0)
 (brC (decide (ByteArray.size s ≤ 2000000) && holds (isPgS s) && PgT.leaf (decP s) && !Nat.beq (List.length (PgT.keys (decP s))) 0)
 (brC (isPg (zzba1 s) && isPg (zzba1 s))
 (brC (!holds (asPg (zzba1 s) = asPg (zzba1 s)))
 (some ((.cv (.pv (.bool false)), [])))
 (brC (isL (PV.sl (List.length (PgT.keys (decP s))) (List.map PV.str (PgT.keys (decP s)))) && isL (PV.sl (List.length (PgT.vals (decP s))) (List.map PV.str (PgT.vals (decP s)))) && Nat.beq 9 9 && Nat.beq 9 9 && 1 == 1)
 (brC (isPg (zzba0 s) && 1 == 1 && holds (asPg (zzba0 s) = mkPg 1 (asPg (zzba0 s))))
 (brC (1 + (↑(List.length (PgT.keys (asPg (zzba0 s)))) : Int) + (↑(List.length (PgT.vals (asPg (zzba0 s)))) : Int) + (↑(List.length (PgT.kids (asPg (zzba0 s)))) : Int) != 1 + (↑(List.length (PgT.keys (decP s))) : Int) + (↑(List.length (PgT.vals (decP s))) : Int))
 (some ((.cv (.pv (.bool false)), [])))
 (brC (decide (ByteArray.size s ≤ 2000000) && holds (isPgS s) && PgT.leaf (decP s) && !Nat.beq (List.length (PgT.keys (decP s))) 0)
 (brC (isPg (zzba1 s) && isPg (zzba1 s))
 (brC (!holds (asPg (zzba1 s) = asPg (zzba1 s)))
 (some ((.cv (.pv (.bool false)), [])))
 (brC (isPg (zzba0 s) && 1 == 1 && holds (asPg (zzba0 s) = mkPg 1 (asPg (zzba0 s))))
 (brC (1 + (↑(List.length (PgT.keys (asPg (zzba0 s)))) : Int) + (↑(List.length (PgT.vals (asPg (zzba0 s)))) : Int) + (↑(List.length (PgT.kids (asPg (zzba0 s)))) : Int) != 1 + (↑(List.length (PgT.keys (decP s))) : Int) + (↑(List.length (PgT.vals (decP s))) : Int))
 (some ((.cv (.pv (.bool false)), [])))
 (some ((.cv (.pv (.bool true)), []))))
 none))
 none)
 none))
 none)
 none))
 none)
 none)
 none) := by kernel_rfl
theorem jro (l : List Int) (k : Int) : q_hdN brC l k =
 brC (isI (pI l) && 0 == 0 && decide (1 ≤ k) && holds (k ≤ 900000000) && holds (asI (pI l) = mkN k (asI (pI l))))
 (some ((.cv (.pv (.int .i64 (k + (↑(List.length (asI (pI l))) : Int)))), [])))
 none := by kernel_rfl
theorem job (k : Int) : jum brC k =
 brC (Nat.beq 0 0 && nilB [] && 0 == 0)
 (some ((.cv (.pv (.int .i64 k)), [])))
 none := by kernel_rfl
theorem jm1 (a : Bool) (k : Int) : jsZ brC a k =
 brC (Nat.beq 0 0 && nilB [])
 (brC (Nat.beq 0 0 && nilB [])
 (brC (Nat.beq 0 0 && nilB [])
 (some ((.cv (.pv (.int .i64 k)), [[.pv (.bool a), .pv .nils, .pv .nils, .pv .nils]])))
 none)
 none)
 none := by kernel_rfl
theorem jlI (l : List Int) (k : Int) (i : Int) : r_hdN brC l k i =
 brC (decide (i < (↑(List.length l) : Int)))
 (brC (decide (0 ≤ i) && decide (i < (↑(List.length l) : Int)))
 (brC (Nat.blt 0 (List.length (List.drop (Int.toNat i * 1) (List.map (PV.int .i64) l))) && PV.isInt .i64 (List.headD (List.drop (Int.toNat i * 1) (List.map (PV.int .i64) l)) PV.nilp) && true)
 (brC (PV.asInt (List.headD (List.drop (Int.toNat i * 1) (List.map (PV.int .i64) l)) PV.nilp) != k)
 (some (.inr (.ret, [(.pv (.int .i64 k), none)])))
 (some (.inl [(.pv (.sl (List.length l) (List.map (PV.int .i64) l)), none), (.pv (.int .i64 (IntKind.wrap .i64 (k + 1))), none), (.pv (.int .i64 (IntKind.wrap .i64 (i + 1))), none)])))
 none)
 none)
 (some (.inr (.exit 0, [(.pv (.int .i64 k), none)]))) := by kernel_rfl
def zzbb0 (s : ByteArray) := (PV.agg [PV.bool false, PV.sl (List.length (PgT.keys (decP s))) (List.map PV.str (mkL 1 (asL (PV.sl (List.length (PgT.keys (decP s))) (List.map PV.str (PgT.keys (decP s))))))), PV.sl 0 [], PV.sl (List.length (PgT.kids (decP s))) (List.map (PV.int .i64) (mkN (1 + (↑(List.length (PgT.keys (decP s))) : Int)) (asI (PV.sl (List.length (PgT.kids (decP s))) (List.map (PV.int .i64) (PgT.kids (decP s)))))))])
def zzbb1 (s : ByteArray) := (PV.agg [PV.bool false, PV.sl (List.length (PgT.keys (decP s))) (List.map PV.str (PgT.keys (decP s))), PV.sl 0 [], PV.sl (List.length (PgT.kids (decP s))) (List.map (PV.int .i64) (PgT.kids (decP s)))])
theorem joE (s : ByteArray) : jrM brC s =
 brC (decide ((↑(ByteArray.size s) : Int) > 1048576))
 (some ((.cv (.pv (.bool true)), [])))
 (brC (decide (ByteArray.size s ≤ 2000000) && holds (isPgS s) && !PgT.leaf (decP s))
 (brC (decide (ByteArray.size s ≤ 2000000) && holds (isPgS s) && !PgT.leaf (decP s))
 (brC (isPg (zzbb1 s) && isPg (zzbb1 s))
 (brC (!holds (asPg (zzbb1 s) = asPg (zzbb1 s)))
 (some ((.cv (.pv (.bool false)), [])))
 (brC (isL (PV.sl (List.length (PgT.keys (decP s))) (List.map PV.str (PgT.keys (decP s)))) && isI (PV.sl (List.length (PgT.kids (decP s))) (List.map (PV.int .i64) (PgT.kids (decP s)))) && Nat.beq 9 9 && Nat.beq 2 2 && 1 == 1)
 (brC (isPg (zzbb0 s) && 1 == 1 && holds (asPg (zzbb0 s) = mkPg 1 (asPg (zzbb0 s))))
 (brC (1 + (↑(List.length (PgT.keys (asPg (zzbb0 s)))) : Int) + (↑(List.length (PgT.vals (asPg (zzbb0 s)))) : Int) + (↑(List.length (PgT.kids (asPg (zzbb0 s)))) : Int) != 1 + (↑(List.length (PgT.keys (decP s))) : Int) + (↑(List.length (PgT.kids (decP s))) : Int))
 (some ((.cv (.pv (.bool false)), [])))
 (brC (decide (ByteArray.size s ≤ 2000000) && holds (isPgS s) && !PgT.leaf (decP s))
 (brC (isPg (zzbb1 s) && isPg (zzbb1 s))
 (brC (!holds (asPg (zzbb1 s) = asPg (zzbb1 s)))
 (some ((.cv (.pv (.bool false)), [])))
 (brC (isPg (zzbb0 s) && 1 == 1 && holds (asPg (zzbb0 s) = mkPg 1 (asPg (zzbb0 s))))
 (brC (1 + (↑(List.length (PgT.keys (asPg (zzbb0 s)))) : Int) + (↑(List.length (PgT.vals (asPg (zzbb0 s)))) : Int) + (↑(List.length (PgT.kids (asPg (zzbb0 s)))) : Int) != 1 + (↑(List.length (PgT.keys (decP s))) : Int) + (↑(List.length (PgT.kids (decP s))) : Int))
 (some ((.cv (.pv (.bool false)), [])))
 (some ((.cv (.pv (.bool true)), []))))
 none))
 none)
 none))
 none)
 none))
 none)
 none)
 none) := by kernel_rfl
def zzbc0 (s : ByteArray) := (PV.agg [PV.bool true, PV.sl 0 [], PV.sl 0 [], PV.sl 0 []])
theorem jol (s : ByteArray) : jrF brC s =
 brC (decide ((↑(ByteArray.size s) : Int) > 1048576))
 (some ((.cv (.pv (.bool true)), [])))
 (brC (decide (ByteArray.size s ≤ 2000000) && holds (isPgS s) && PgT.leaf (decP s) && Nat.beq (List.length (PgT.keys (decP s))) 0)
 (brC (decide (ByteArray.size s ≤ 2000000) && holds (isPgS s) && PgT.leaf (decP s) && Nat.beq (List.length (PgT.keys (decP s))) 0)
 (brC (isPg (zzbc0 s) && isPg (zzbc0 s))
 (brC (!holds (asPg (zzbc0 s) = asPg (zzbc0 s)))
 (some ((.cv (.pv (.bool false)), [])))
 (brC (isPg (zzbc0 s) && 1 == 1 && holds (asPg (zzbc0 s) = mkPg 1 (asPg (zzbc0 s))))
 (brC (1 + (↑(List.length (PgT.keys (asPg (zzbc0 s)))) : Int) + (↑(List.length (PgT.vals (asPg (zzbc0 s)))) : Int) + (↑(List.length (PgT.kids (asPg (zzbc0 s)))) : Int) != 1)
 (some ((.cv (.pv (.bool false)), [])))
 (brC (decide (ByteArray.size s ≤ 2000000) && holds (isPgS s) && PgT.leaf (decP s) && Nat.beq (List.length (PgT.keys (decP s))) 0)
 (brC (isPg (zzbc0 s) && isPg (zzbc0 s))
 (brC (!holds (asPg (zzbc0 s) = asPg (zzbc0 s)))
 (some ((.cv (.pv (.bool false)), [])))
 (brC (isPg (zzbc0 s) && 1 == 1 && holds (asPg (zzbc0 s) = mkPg 1 (asPg (zzbc0 s))))
 (brC (1 + (↑(List.length (PgT.keys (asPg (zzbc0 s)))) : Int) + (↑(List.length (PgT.vals (asPg (zzbc0 s)))) : Int) + (↑(List.length (PgT.kids (asPg (zzbc0 s)))) : Int) != 1)
 (some ((.cv (.pv (.bool false)), [])))
 (some ((.cv (.pv (.bool true)), []))))
 none))
 none)
 none))
 none))
 none)
 none)
 none) := by kernel_rfl
theorem jri (l : List Int) (k : Int) : q_mkN brC l k =
 brC (isI (PV.sl (List.length l) (List.map (PV.int .i64) l)) && Nat.beq 2 2 && Nat.beq 0 0 && 0 == 0 && decide (1 ≤ k) && holds (k ≤ 900000000))
 (brC (Nat.beq (List.length (mkN k (asI (PV.sl (List.length l) (List.map (PV.int .i64) l))))) (List.length l))
 (some ((.cv (.pv (.int .i64 (k + (↑(List.length (asI (PV.sl (List.length l) (List.map (PV.int .i64) l)))) : Int)))), [[.lst 1 2 (List.length l) (List.map (PV.int .i64) (mkN k (asI (PV.sl (List.length l) (List.map (PV.int .i64) l))))) true]])))
 none)
 none := by kernel_rfl
theorem jmJ (a : Bool) (ks : List ByteArray) (vs : List ByteArray) (k : Int) : jsc brC a ks vs k =
 brC (isL (PV.sl (List.length ks) (List.map PV.str ks)) && Nat.beq 9 9 && decide (1 ≤ k) && holds (k ≤ 900000000))
 (brC (isL (PV.sl (List.length vs) (List.map PV.str vs)) && Nat.beq 9 9 && decide (1 ≤ k + (↑(List.length (asL (PV.sl (List.length ks) (List.map PV.str ks)))) : Int)) && holds (k + (↑(List.length (asL (PV.sl (List.length ks) (List.map PV.str ks)))) : Int) ≤ 900000000))
 (brC (Nat.beq 0 0 && nilB [])
 (brC (Nat.beq (List.length ks) (List.length ks) && (Nat.beq (List.length vs) (List.length vs) && true))
 (some ((.cv (.pv (.int .i64 (k + (↑(List.length (asL (PV.sl (List.length ks) (List.map PV.str ks)))) : Int) + (↑(List.length (asL (PV.sl (List.length vs) (List.map PV.str vs)))) : Int)))), [[.pv (.bool a), .lst 1 9 (List.length ks) (List.map PV.str (mkL k (asL (PV.sl (List.length ks) (List.map PV.str ks))))) true, .lst 1 9 (List.length vs) (List.map PV.str (mkL (k + (↑(List.length (asL (PV.sl (List.length ks) (List.map PV.str ks)))) : Int)) (asL (PV.sl (List.length vs) (List.map PV.str vs))))) true, .pv .nils]])))
 none)
 none)
 none)
 none := by kernel_rfl
theorem jpD (l : List Int) (u : List Int) : jtN brC l u =
 brC ((↑(List.length l) : Int) != (↑(List.length u) : Int))
 (some ((.cv (.pv (.bool false)), [])))
 (brC (isI (pI l) && isI (pI u) && 0 == 0 && decide (List.length (asI (pI l)) = List.length (asI (pI u))) && holds (asI (pI l) = asI (pI u)))
 (some ((.cv (.pv (.bool true)), [])))
 (brC (isI (pI l) && isI (pI u) && 0 == 0 && decide (List.length (asI (pI l)) = List.length (asI (pI u))))
 (some ((.cv (.pv (.bool false)), [])))
 none)) := by kernel_rfl
theorem jnu (k : Int) : jt3 brC k =
 brC (Nat.beq 0 0 && nilB [] && 0 == 0)
 (some ((.cv (.pv (.int .i64 k)), [])))
 none := by kernel_rfl
def zzbd0 (s : ByteArray) := (PV.agg [PV.bool false, PV.sl 0 [], PV.sl 0 [], PV.sl 0 []])
theorem jpQ (s : ByteArray) : jrt brC s =
 brC (decide ((↑(ByteArray.size s) : Int) > 1048576))
 (some ((.cv (.pv (.bool true)), [])))
 (brC (decide (ByteArray.size s ≤ 2000000) && !holds (isPgS s))
 (brC (decide (ByteArray.size s ≤ 2000000) && !holds (isPgS s))
 (brC (isPg (zzbd0 s) && isPg (zzbd0 s))
 (brC (!holds (asPg (zzbd0 s) = asPg (zzbd0 s)))
 (some ((.cv (.pv (.bool false)), [])))
 (brC (isPg (zzbd0 s) && 1 == 1 && holds (asPg (zzbd0 s) = mkPg 1 (asPg (zzbd0 s))))
 (brC (1 + (↑(List.length (PgT.keys (asPg (zzbd0 s)))) : Int) + (↑(List.length (PgT.vals (asPg (zzbd0 s)))) : Int) + (↑(List.length (PgT.kids (asPg (zzbd0 s)))) : Int) != 1)
 (some ((.cv (.pv (.bool false)), [])))
 (brC (decide (ByteArray.size s ≤ 2000000) && !holds (isPgS s))
 (brC (isPg (zzbd0 s) && isPg (zzbd0 s))
 (brC (!holds (asPg (zzbd0 s) = asPg (zzbd0 s)))
 (some ((.cv (.pv (.bool false)), [])))
 (brC (isPg (zzbd0 s) && 1 == 1 && holds (asPg (zzbd0 s) = mkPg 1 (asPg (zzbd0 s))))
 (brC (1 + (↑(List.length (PgT.keys (asPg (zzbd0 s)))) : Int) + (↑(List.length (PgT.vals (asPg (zzbd0 s)))) : Int) + (↑(List.length (PgT.kids (asPg (zzbd0 s)))) : Int) != 1)
 (some ((.cv (.pv (.bool false)), [])))
 (some ((.cv (.pv (.bool true)), []))))
 none))
 none)
 none))
 none))
 none)
 none)
 none) := by kernel_rfl
end
section
open Go.RowKit Go.ChangeShapes Go.WideShapes
theorem jtx {w : World} {b : Nat} {xs : List Value} (h : ∃ t f, w.heap[b]? = some (.cells xs.toArray t f)) : GlRow w (jbZ w) b xs := by
 obtain ⟨t, f, h⟩ := h
 refine ⟨⟨t, f, h⟩, ?_⟩
 unfold jbZ
 rw [h]
 simp
theorem jnN {w : World} {name : String} {g : Nat} {k : IntKind} {zs : List Int} (hg : Tryz.prog.globalNamed name = some g) (h : Lib.TabIs Tryz.prog w name k zs) : GlRow w (jbZ w) g (zs.map fun z => Value.int k z) := by
 unfold Lib.TabIs World.var? at h
 rw [hg] at h
 dsimp only [nqL] at h
 split at h
 ·rename_i cs t f hb
  cases h
  exact jtx ⟨t, f, hb⟩
 ·cases h
theorem gl_top {w : World}
 (hm : ∃ m : Int, w.cell? ⟨0, 0, none⟩ = some (.int .i64 m))
 (ht : Lib.TabIs Tryz.prog w "internal/strconv.uint64pow10" .u64 Lib.pow10Tab)
 : Gl w (jbZ w) := by
 unfold Gl
 refine ⟨?_, ?_⟩
 ·obtain ⟨m, hm⟩ := hm
  exact ⟨m, hm, jjz hm⟩
 refine ⟨jnN (by kernel_rfl) ht, ?_⟩
 trivial
end
section
open Go.RowKit
theorem jo9 (l u : List Int) (hlu : l.length = u.length) (hl : l.length ≤ 100000) : ∀ (m i : Nat), m + i = l.length → LoopsTo (rdB brC Tryz.prog [] jfY jfQ Tryz.f45 4 []) [aP (pI l), aP (pI u), aI i] (if holds (l.drop i = u.drop i) = true then (.exit 0, [aP (pI l), aX]) else (.ret, [aP (pI l), aB false])) := by
 intro m
 induction m with
 | zero =>
  intro i hm
  rw [List.drop_eq_nil_of_le (show l.length ≤ i by omega), List.drop_eq_nil_of_le (show u.length ≤ i by omega), if_pos (jad rfl)]
  refine .done _ _ ((jiM l u i).trans ?_)
  rw [dF (by omega)]
  rfl
 | succ m ih =>
  intro i hm
  have hi : i < l.length := by omega
  have hiu : i < u.length := by omega
  have tree := jiM l u i
  have ii : ∀ z : Int, PV.isInt IntKind.i64 (PV.int .i64 z) = true := fun _ => rfl
  simp (disch := omega) only [dT, nqF, jbO l i hi, jbO u i hiu, nqH, List.headD_cons, ii, PV.isInt, PV.asInt, blt0, wrap1, Bool.and_true] at tree
  have ih' := ih (i + 1) (by omega)
  rw [nqK hi, nqK hiu]
  cases hb : (l[i] == u[i]) with
  | true =>
   unfold bne at tree
   rw [hb] at tree
   have e : l[i] = u[i] := eq_of_beq hb
   have e2 : holds (l[i] :: List.drop (i + 1) l = u[i] :: List.drop (i + 1) u) = holds (List.drop (i + 1) l = List.drop (i + 1) u) := by
    congr 1
    rw [e]
    exact propext ⟨fun h => by injection h, fun h => by rw [h]⟩
   rw [e2]
   exact .step _ _ _ tree ih'
  | false =>
   unfold bne at tree
   rw [hb] at tree
   rw [if_neg (fun h => by
    have := jaj h
    injection this with h1 _
    rw [h1, beq_self_eq_true] at hb
    cases hb)]
   exact .done _ _ tree
theorem jrT : jac Tryz.prog 45 E_eqIt := jag mix (tab := []) trivial (lp := jfY) (LO := jfQ) ⟨Tryz.func45, by kernel_rfl, by kernel_rfl⟩ (by kernel_rfl) fun ivs res bxs h => by
 unfold E_eqIt at h
 split at h
 ·rename_i p q
  obtain ⟨hc, he⟩ := pick1 h
  cases he
  obtain ⟨k0, k1⟩ := andE hc
  obtain ⟨l, rfl, h_l⟩ := jao k0
  obtain ⟨u, rfl, h_u⟩ := jao k1
  have e_l : asI (pI l) = l := jbd l
  have e_u : asI (pI u) = u := jbd u
  have i_l : isI (pI l) = true := jdf h_l
  have i_u : isI (pI u) = true := jdf h_u
  rw [e_l, e_u]
  refine ⟨jaF 4 (by kernel_rfl) (by kernel_rfl) (by kernel_rfl) ?_, ?_⟩
  ·intro ls e ls' hl
   replace hl : pickA (jfS ls) = some (e, ls') := hl
   unfold jfS at hl
   split at hl
   ·rename_i p q i
    have key : (isI p && isI q && (i == 0) && decide ((asI p).length = (asI q).length)) = true → LoopsTo (rdB brC Tryz.prog [] jfY jfQ Tryz.f45 4 []) [aP p, aP q, aI i] (if holds (asI p = asI q) = true then (.exit 0, [aP p, aX]) else (.ret, [aP p, aB false])) := fun hc => by
     obtain ⟨hc, g3⟩ := andE hc
     obtain ⟨hc, g2⟩ := andE hc
     obtain ⟨g0, g1⟩ := andE hc
     obtain ⟨t, rfl, h_t⟩ := jao g0
     obtain ⟨v, rfl, h_v⟩ := jao g1
     have e_t : asI (pI t) = t := jbd t
     have e_v : asI (pI v) = v := jbd v
     rw [e_t, e_v] at g3 ⊢
     rw [eq_of_beq g2]
     exact jo9 t v (nqI g3) h_t.1 t.length 0 rfl
    rcases pick2 hl with ⟨hc, he⟩ | ⟨hn, hc, he⟩
    ·cases he
     obtain ⟨hc, k⟩ := andE hc
     have := key hc
     rw [if_pos k] at this
     exact this
    ·cases he
     have := key hc
     rw [hc, Bool.true_and] at hn
     rw [hn, if_neg Bool.false_ne_true] at this
     exact this
   ·cases hl
  ·have tree := jpD l u
   rw [i_l, i_u, e_l, e_u] at tree
   by_cases hlen : l.length = u.length
   ·have hb : (((l.length : Nat) : Int) == ((u.length : Nat) : Int)) = true := beq_iff_eq.2 (by omega)
    have hb2 : (((l.length : Nat) : Int) != ((u.length : Nat) : Int)) = false := by unfold bne; rw [hb]; rfl
    simp only [hb, hb2, decide_eq_true hlen, Bool.and_true, Bool.true_and, beq_self_eq_true] at tree
    cases hh : holds (l = u) with
    | true => rw [hh] at tree; exact tree.trans rfl
    | false => rw [hh] at tree; exact tree.trans rfl
   ·have hb : (((l.length : Nat) : Int) == ((u.length : Nat) : Int)) = false := beq_eq_false_iff_ne.2 (by omega)
    have hb2 : (((l.length : Nat) : Int) != ((u.length : Nat) : Int)) = true := by unfold bne; rw [hb]; rfl
    have hh : holds (l = u) = false := @decide_eq_false _ (Classical.propDecidable _) fun e => hlen (by rw [e])
    simp only [hb, hb2] at tree
    rw [hh]
    exact tree.trans rfl
 ·cases h
theorem jga : ∀ (k : Int) (l : List Int), (mkN k l).length = l.length
 | k, [] => rfl
 | k, x :: t => by show (mkN (k + 1) t).length + 1 = _; rw [nqH, jga (k + 1) t]
theorem jqp : ∀ (m i : Nat) (l : List Int) (k : Int), m + i = l.length → l.length ≤ 100000 → 1 ≤ k → k ≤ 900000000 + i →
  LoopsTo (rdB brC Tryz.prog [] jeH jkS Tryz.f47 2 [0]) [aWN l, aI k, aI i] (.exit 0, [aWN (l.take i ++ mkN k (l.drop i)), aI (k + m)]) := by
 intro m
 induction m with
 | zero =>
  intro i l k hm hl h1 h2
  rw [List.drop_eq_nil_of_le (show l.length ≤ i by omega), List.take_of_length_le (show l.length ≤ i by omega), show mkN k [] = [] from rfl, List.append_nil, show k + ((0 : Nat) : Int) = k by omega]
  refine .done _ _ ((jlD l k i).trans ?_)
  rw [dF (by omega)]
  rfl
 | succ m ih =>
  intro i l k hm hl h1 h2
  have hi : i < l.length := by omega
  have tree := jlD l k i
  have w1 : IntKind.wrap .i64 (k + 1) = k + 1 := wrapI (by omega) (by omega)
  have q2 : Nat.ble (i * 1 + 1) (List.map (PV.int .i64) l).length = true := Nat.ble_eq_true_of_le (by rw [List.length_map]; omega)
  have e1 : List.take (i * 1) (List.map (PV.int .i64) l) ++ [PV.int .i64 k] ++ List.drop (i * 1 + 1) (List.map (PV.int .i64) l) = List.map (PV.int .i64) (l.take i ++ [k] ++ l.drop (i + 1)) := by
   rw [Nat.mul_one, List.map_append, List.map_append, List.map_take, List.map_drop]
   rfl
  have e2 : (l.take i ++ [k] ++ l.drop (i + 1)).length = l.length := by
   rw [nqG, nqG, List.length_take, List.length_drop, List.length_singleton]
   omega
  have e3 : (l.take i ++ [k] ++ l.drop (i + 1)).take (i + 1) = l.take i ++ [k] := by
   rw [List.take_left' (by rw [nqG, List.length_take, List.length_singleton]; omega)]
  have e4 : (l.take i ++ [k] ++ l.drop (i + 1)).drop (i + 1) = l.drop (i + 1) := by
   rw [List.drop_left' (by rw [nqG, List.length_take, List.length_singleton]; omega)]
  rw [nqF, w1, q2, e1] at tree
  simp (disch := omega) only [dT, wrap1, Bool.and_true, show Nat.beq (List.length [PV.int .i64 k]) 1 = true from rfl] at tree
  have := ih (i + 1) (l.take i ++ [k] ++ l.drop (i + 1)) (k + 1) (by rw [e2]; omega) (by rw [e2]; omega) (by omega) (by omega)
  rw [e3, e4] at this
  rw [nqK hi, show mkN k (l[i] :: l.drop (i + 1)) = [k] ++ mkN (k + 1) (l.drop (i + 1)) from rfl, show k + ((m + 1 : Nat) : Int) = k + 1 + (m : Int) by omega, ← List.append_assoc]
  unfold aWN at this ⊢
  rw [e2] at this
  exact .step _ _ _ tree this
theorem jr2 : jac Tryz.prog 47 E_mkNa := jag mix (tab := []) trivial (lp := jeH) (LO := jkS) ⟨Tryz.func47, by kernel_rfl, by kernel_rfl⟩ (by kernel_rfl) fun ivs res bxs h => by
 unfold E_mkNa at h
 split at h
 ·rename_i e n l k
  obtain ⟨hc, he⟩ := pick1 h
  cases he
  obtain ⟨hc, k3⟩ := andE hc
  obtain ⟨hc, k2⟩ := andE hc
  obtain ⟨k0, k1⟩ := andE hc
  obtain ⟨t, q_t, h_t⟩ := jao k0
  injection q_t with qa qb
  subst qa
  subst qb
  obtain rfl := nqB k1
  have e_t : asI (.sl t.length (t.map (.int .i64))) = t := jbd t
  refine ⟨jaF 2 (by kernel_rfl) (by kernel_rfl) (by kernel_rfl) ?_, (jri t k).trans ?_⟩
  ·intro ls e ls' hl
   replace hl : pickA (jh7 ls) = some (e, ls') := hl
   unfold jh7 at hl
   split at hl
   ·rename_i x e n l k i
    obtain ⟨hc, he⟩ := pick1 hl
    cases he
    obtain ⟨hc, g5⟩ := andE hc
    obtain ⟨hc, g4⟩ := andE hc
    obtain ⟨hc, g3⟩ := andE hc
    obtain ⟨hc, g2⟩ := andE hc
    obtain ⟨g0, g1⟩ := andE hc
    obtain ⟨t, q_t, h_t⟩ := jao g0
    injection q_t with qa qb
    subst qa
    subst qb
    have e_t : asI (.sl t.length (t.map (.int .i64))) = t := jbd t
    obtain rfl := nqB g1
    obtain rfl := nqB g2
    obtain rfl := eq_of_beq g3
    rw [e_t]
    have g5 := jaj g5
    have := jqp t.length 0 t k rfl h_t.1 (nqI g4) (by omega)
    rw [List.take_zero, List.nil_append, List.drop_zero] at this
    exact this
   ·cases hl
  ·rw [e_t, k0, k2, k3, jga, Nat.beq_refl t.length]
   rfl
 ·cases h
theorem jqz : ∀ (m i : Nat) (l : List Int) (k : Int), m + i = l.length → l.length ≤ 100000 → 1 ≤ k → k ≤ 900000000 + i → l.drop i = mkN k (l.drop i) →
  LoopsTo (rdB brC Tryz.prog [] jkP jlb Tryz.f49 2 []) [aP (pI l), aI k, aI i] (.exit 0, [aI (k + m)]) := by
 intro m
 induction m with
 | zero =>
  intro i l k hm hl h1 h2 hd
  rw [show k + ((0 : Nat) : Int) = k by omega]
  refine .done _ _ ((jlI l k i).trans ?_)
  rw [dF (by omega)]
  rfl
 | succ m ih =>
  intro i l k hm hl h1 h2 hd
  have hi : i < l.length := by omega
  have tree := jlI l k i
  have ii : ∀ z : Int, PV.isInt IntKind.i64 (PV.int .i64 z) = true := fun _ => rfl
  have w1 : IntKind.wrap .i64 (k + 1) = k + 1 := wrapI (by omega) (by omega)
  rw [nqK hi, show mkN k (l[i] :: l.drop (i + 1)) = k :: mkN (k + 1) (l.drop (i + 1)) from rfl] at hd
  injection hd with he hd
  simp (disch := omega) only [dT, nqF, jbO l i hi, nqH, List.headD_cons, ii, PV.isInt, PV.asInt, blt0, wrap1, w1, he, bne_self_eq_false, beq_self_eq_true, Bool.not_true, Bool.and_true] at tree
  have := ih (i + 1) l (k + 1) (by omega) hl (by omega) (by omega) hd
  rw [show k + ((m + 1 : Nat) : Int) = k + 1 + (m : Int) by omega]
  exact .step _ _ _ tree this
theorem jub : jac Tryz.prog 49 E_hdN := jag mix (tab := []) trivial (lp := jkP) (LO := jlb) ⟨Tryz.func49, by kernel_rfl, by kernel_rfl⟩ (by kernel_rfl) fun ivs res bxs h => by
 unfold E_hdN at h
 split at h
 ·rename_i p k
  obtain ⟨hc, he⟩ := pick1 h
  cases he
  obtain ⟨hc, k3⟩ := andE hc
  obtain ⟨hc, k2⟩ := andE hc
  obtain ⟨k0, k1⟩ := andE hc
  obtain ⟨t, rfl, h_t⟩ := jao k0
  have e_t : asI (pI t) = t := jbd t
  refine ⟨jaF 2 (by kernel_rfl) (by kernel_rfl) (by kernel_rfl) ?_, (jro t k).trans ?_⟩
  ·intro ls e ls' hl
   replace hl : pickA (jh8 ls) = some (e, ls') := hl
   unfold jh8 at hl
   split at hl
   ·rename_i p k i
    obtain ⟨hc, he⟩ := pick1 hl
    cases he
    obtain ⟨hc, g4⟩ := andE hc
    obtain ⟨hc, g3⟩ := andE hc
    obtain ⟨hc, g2⟩ := andE hc
    obtain ⟨g0, g1⟩ := andE hc
    obtain ⟨t, rfl, h_t⟩ := jao g0
    have e_t : asI (pI t) = t := jbd t
    obtain rfl := eq_of_beq g1
    rw [e_t] at g4 ⊢
    have g3 := jaj g3
    exact jqz t.length 0 t k rfl h_t.1 (nqI g2) (by omega) (jaj g4)
   ·cases hl
  ·rw [e_t] at k3 ⊢
   rw [k0, k1, k2, k3]
   rfl
 ·cases h
theorem jmw : ∀ b ∈ jav (ja5 Tryz.f47), jbb Tryz.prog (tabL []) (OL jeH) Tryz.f47.ntmps (pbOf []) jeG b := by
 refine jaF 2 (by kernel_rfl) (by kernel_rfl) (by kernel_rfl) ?_
 intro ls e ls' hl
 replace hl : pickA (jdA ls) = some (e, ls') := hl
 unfold jdA at hl
 split at hl
 ·rename_i n l k i
  obtain ⟨hc, he⟩ := pick1 hl
  cases he
  obtain ⟨hc, g2⟩ := andE hc
  obtain ⟨g0, g1⟩ := andE hc
  obtain rfl := nqB g0
  obtain rfl := jbH g1
  obtain rfl := eq_of_beq g2
  exact .done _ _ (jo1 k 0)
 ·cases hl
theorem jso : jac Tryz.prog 47 E_mkNn := jag mix (tab := []) trivial (lp := jeH) (LO := jeG) ⟨Tryz.func47, by kernel_rfl, by kernel_rfl⟩ (by kernel_rfl) fun ivs res bxs h => by
 unfold E_mkNn at h
 split at h
 ·rename_i n l k
  obtain ⟨hc, he⟩ := pick1 h
  cases he
  obtain ⟨g0, g1⟩ := andE hc
  obtain rfl := nqB g0
  obtain rfl := jbH g1
  exact ⟨jmw, (jnu k).trans (by rw [jbC]; rfl)⟩
 ·cases h
theorem jnd : ∀ b ∈ jav (ja5 Tryz.f46), jbb Tryz.prog (tabL kfb0) (OL jeA) Tryz.f46.ntmps (pbOf []) jeG b := by
 refine jaF 2 (by kernel_rfl) (by kernel_rfl) (by kernel_rfl) ?_
 intro ls e ls' hl
 replace hl : pickA (jdA ls) = some (e, ls') := hl
 unfold jdA at hl
 split at hl
 ·rename_i n l k i
  obtain ⟨hc, he⟩ := pick1 hl
  cases he
  obtain ⟨hc, g2⟩ := andE hc
  obtain ⟨g0, g1⟩ := andE hc
  obtain rfl := nqB g0
  obtain rfl := jbH g1
  obtain rfl := eq_of_beq g2
  exact .done _ _ (jpi k 0)
 ·cases hl
theorem jsQ : jac Tryz.prog 46 E_mkNn := jag mix jjN (lp := jeA) (LO := jeG) ⟨Tryz.func46, by kernel_rfl, by kernel_rfl⟩ (by kernel_rfl) fun ivs res bxs h => by
 unfold E_mkNn at h
 split at h
 ·rename_i n l k
  obtain ⟨hc, he⟩ := pick1 h
  cases he
  obtain ⟨g0, g1⟩ := andE hc
  obtain rfl := nqB g0
  obtain rfl := jbH g1
  exact ⟨jnd, (job k).trans (by rw [jbC]; rfl)⟩
 ·cases h
theorem jtO : jac Tryz.prog 47 E_mkN := jiE jr2 jso
theorem jr3 : jac Tryz.prog 46 E_mkS2 := jiE jud jsQ
theorem jsX : jah Tryz.prog rjb0 := ⟨jrS, jrT, trivial⟩
theorem pgEq (x y : PgT) : holds (x = y) = ((x.leaf == y.leaf) && (holds (x.keys = y.keys) && (holds (x.vals = y.vals) && holds (x.kids = y.kids)))) := by
 rw [Bool.eq_iff_iff]
 constructor
 ·intro h
  have e := jaj h
  subst e
  rw [beq_self_eq_true, show holds (x.keys = x.keys) = true from jad rfl, show holds (x.vals = x.vals) = true from jad rfl, show holds (x.kids = x.kids) = true from jad rfl]
  rfl
 ·intro h
  simp only [nqE, beq_iff_eq] at h
  obtain ⟨h1, h2, h3, h4⟩ := h
  have h2 := jaj h2
  have h3 := jaj h3
  have h4 := jaj h4
  cases x
  cases y
  dsimp only at h1 h2 h3 h4
  rw [h1, h2, h3, h4]
  exact jad rfl
theorem jtr : jac Tryz.prog 9 E_eqPg := jag mix jsX (lp := []) (LO := LO0) ⟨Tryz.func9, by kernel_rfl, by kernel_rfl⟩ (by kernel_rfl) fun ivs res bxs h => by
 unfold E_eqPg at h
 split at h
 ·rename_i p q
  obtain ⟨hc, he⟩ := pick1 h
  cases he
  obtain ⟨k0, k1⟩ := andE hc
  obtain ⟨x, rfl, h_x⟩ := jao k0
  obtain ⟨y, rfl, h_y⟩ := jao k1
  have e_x : asPg (pPg x) = x := jb5 x
  have e_y : asPg (pPg y) = y := jb5 y
  rw [e_x, e_y, pgEq]
  refine ⟨jap (by kernel_rfl), (jn8 x y).trans ?_⟩
  have i1 := jar h_x.1
  have i2 := jar h_y.1
  have i3 := jar h_x.2.1
  have i4 := jar h_y.2.1
  have i5 := jdf h_x.2.2
  have i6 := jdf h_y.2.2
  simp only [isL, isI, i1, i2, i3, i4, i5, i6, jam, jbd, Bool.and_true]
  generalize (x.leaf == y.leaf) = a
  generalize holds (x.keys = y.keys) = b
  generalize holds (x.vals = y.vals) = c
  generalize holds (x.kids = y.kids) = d
  cases a <;> cases b <;> cases c <;> cases d <;> rfl
 ·cases h
theorem jrR : jah Tryz.prog rjb1 := ⟨jr3, jtO, trivial⟩
theorem jst : jac Tryz.prog 10 E_mkPg := jag mix jrR (lp := jhH) (LO := LO0) ⟨Tryz.func10, by kernel_rfl, by kernel_rfl⟩ (by kernel_rfl) fun ivs res bxs h => by
 unfold E_mkPg at h
 split at h
 ·rename_i a e n l f m u k
  obtain ⟨hc, he⟩ := pick1 h
  cases he
  obtain ⟨hc, k4⟩ := andE hc
  obtain ⟨hc, k3⟩ := andE hc
  obtain ⟨hc, k2⟩ := andE hc
  obtain ⟨k0, k1⟩ := andE hc
  obtain rfl := nqB k2
  obtain rfl := nqB k3
  obtain rfl := eq_of_beq k4
  obtain ⟨t, q_t, h_t⟩ := jao k0
  injection q_t with qa qb
  subst qa
  subst qb
  obtain ⟨v, q_v, h_v⟩ := jao k1
  injection q_v with qa qb
  subst qa
  subst qb
  have e_t : asL (.sl t.length (t.map .str)) = t := jam t
  have e_v : asL (.sl v.length (v.map .str)) = v := jam v
  refine ⟨jap (by kernel_rfl), (jmJ a t v 1).trans ?_⟩
  have hl := h_t.1
  have q1 : holds ((1 : Int) ≤ 900000000) = true := jad (by omega)
  have q2 : holds ((1 : Int) + (t.length : Int) ≤ 900000000) = true := jad (by omega)
  rw [e_t, e_v, k0, k1, q1, q2, dT (show (1 : Int) ≤ 1 + (t.length : Int) by omega), Nat.beq_refl t.length, Nat.beq_refl v.length, jbC]
  rfl
 ·rename_i a e n l f m u k
  obtain ⟨hc, he⟩ := pick1 h
  cases he
  obtain ⟨hc, k4⟩ := andE hc
  obtain ⟨hc, k3⟩ := andE hc
  obtain ⟨hc, k2⟩ := andE hc
  obtain ⟨k0, k1⟩ := andE hc
  obtain rfl := nqB k2
  obtain rfl := nqB k3
  obtain rfl := eq_of_beq k4
  obtain ⟨t, q_t, h_t⟩ := jao k0
  injection q_t with qa qb
  subst qa
  subst qb
  obtain ⟨v, q_v, h_v⟩ := jao k1
  injection q_v with qa qb
  subst qa
  subst qb
  have e_t : asL (.sl t.length (t.map .str)) = t := jam t
  have e_v : asI (.sl v.length (v.map (.int .i64))) = v := jbd v
  refine ⟨jap (by kernel_rfl), (jnk a t v 1).trans ?_⟩
  have hl := h_t.1
  have q1 : holds ((1 : Int) ≤ 900000000) = true := jad (by omega)
  have q2 : holds ((1 : Int) + (t.length : Int) ≤ 900000000) = true := jad (by omega)
  rw [e_t, e_v, k0, k1, q1, q2, dT (show (1 : Int) ≤ 1 + (t.length : Int) by omega), Nat.beq_refl t.length, Nat.beq_refl v.length, jbC]
  rfl
 ·rename_i a k
  obtain ⟨hc, he⟩ := pick1 h
  cases he
  obtain rfl := eq_of_beq hc
  refine ⟨jap (by kernel_rfl), (jm1 a 1).trans ?_⟩
  rw [jbC]
  rfl
 ·cases h
theorem jsF : jah Tryz.prog rjb2 := ⟨jup, jub, trivial⟩
theorem jq3 {x : PgT} (h : x = mkPg 1 x) : x.keys = mkL 1 x.keys ∧ x.vals = mkL (1 + x.keys.length) x.vals ∧ x.kids = mkN (1 + x.keys.length + x.vals.length) x.kids := by
 refine ⟨?_, ?_, ?_⟩
 ·conv => lhs; rw [h]
  rfl
 ·conv => lhs; rw [h]
  rfl
 ·conv => lhs; rw [h]
  rfl
theorem jtj : jac Tryz.prog 11 E_hdPg := jag mix jsF (lp := []) (LO := LO0) ⟨Tryz.func11, by kernel_rfl, by kernel_rfl⟩ (by kernel_rfl) fun ivs res bxs h => by
 unfold E_hdPg at h
 split at h
 ·rename_i p k
  obtain ⟨hc, he⟩ := pick1 h
  cases he
  obtain ⟨hc, k2⟩ := andE hc
  obtain ⟨k0, k1⟩ := andE hc
  obtain ⟨x, rfl, h_x⟩ := jao k0
  have e_x : asPg (pPg x) = x := jb5 x
  obtain rfl := eq_of_beq k1
  rw [e_x] at k2 ⊢
  refine ⟨jap (by kernel_rfl), (jpS x 1).trans ?_⟩
  try delta zzaz0
  obtain ⟨g1, g2, g3⟩ := jq3 (jaj k2)
  have i1 := jar h_x.1
  have i3 := jar h_x.2.1
  have i5 := jdf h_x.2.2
  have hl1 := h_x.1.1
  have hl2 := h_x.2.1.1
  have q1 : holds ((1 : Int) ≤ 900000000) = true := jad (by omega)
  have q2 : holds ((1 : Int) + (x.keys.length : Int) ≤ 900000000) = true := jad (by omega)
  have q3 : holds ((1 : Int) + (x.keys.length : Int) + (x.vals.length : Int) ≤ 900000000) = true := jad (by omega)
  simp (disch := omega) only [isL, isI, i1, i3, i5, jam, jbd, q1, q2, q3, dT, dF, decide_true, jad g1, jad g2, jad g3, Bool.and_true]
  rfl
 ·cases h
theorem jo8 {f : FuncId} (h : jac Tryz.prog f E_gp) : jac Tryz.prog f E_gA ∧ jac Tryz.prog f E_gB ∧ jac Tryz.prog f E_gC ∧ jac Tryz.prog f E_gD := by
 refine ⟨⟨h.1, fun ivs res bxs k => h.2 ivs res bxs ?_⟩, ⟨h.1, fun ivs res bxs k => h.2 ivs res bxs ?_⟩, ⟨h.1, fun ivs res bxs k => h.2 ivs res bxs ?_⟩, ⟨h.1, fun ivs res bxs k => h.2 ivs res bxs ?_⟩⟩
 ·unfold E_gA at k
  split at k
  ·obtain ⟨hc, he⟩ := pick1 k
   cases he
   unfold E_gp
   dsimp only
   rw [hc]
   rfl
  ·cases k
 ·unfold E_gB at k
  split at k
  ·rename_i s
   obtain ⟨hc, he⟩ := pick1 k
   cases he
   obtain ⟨hc, k1⟩ := andE hc
   unfold E_gp
   dsimp only
   rw [hc, show Nat.beq (decP s).keys.length 0 = false by cases h : Nat.beq (decP s).keys.length 0 <;> rw [h] at k1 <;> first | rfl | cases k1]
   rfl
  ·cases k
 ·unfold E_gC at k
  split at k
  ·rename_i s
   obtain ⟨hc, he⟩ := pick1 k
   cases he
   obtain ⟨hc, k1⟩ := andE hc
   unfold E_gp
   dsimp only
   rw [hc, show (decP s).leaf = false by cases h : (decP s).leaf <;> rw [h] at k1 <;> first | rfl | cases k1]
   rfl
  ·cases k
 ·unfold E_gD at k
  split at k
  ·rename_i s
   obtain ⟨hc, he⟩ := pick1 k
   cases he
   obtain ⟨hc, k1⟩ := andE hc
   unfold E_gp
   dsimp only
   rw [hc, show holds (isPgS s) = false by cases h : holds (isPgS s) <;> rw [h] at k1 <;> first | rfl | cases k1]
   rfl
  ·cases k
theorem jh9 {E : Entry} (h1 : jac Tryz.prog 7 E) (h2 : jac Tryz.prog 8 E) : jah Tryz.prog (rjb3 E) := ⟨h1, h2, jtr, jst, jtj, trivial⟩
theorem jk0 : ∀ (k : Int) (l : List Int), mkN k (mkN k l) = mkN k l
 | k, [] => rfl
 | k, x :: t => by show k :: mkN (k + 1) (mkN (k + 1) t) = k :: mkN (k + 1) t; rw [jk0 (k + 1) t]
theorem joP : ∀ (l : List Int) (k : Int), ∀ x ∈ mkN k l, k ≤ x ∧ x < k + l.length
 | [], k, x, h => by cases h
 | a :: t, k, x, h => by
  rcases List.mem_cons.1 h with h | h
  ·rw [h, nqH]; omega
  ·have := joP t (k + 1) x h
   rw [nqH]
   omega
theorem jo3 (x : PgT) : mkPg 1 x = mkPg 1 (mkPg 1 x) := by
 unfold mkPg
 simp only [jdp, jmd, jk0]
theorem jtp {x : PgT} (h : shPg x) : shPg (mkPg 1 x) := by
 refine ⟨⟨?_, fun k hk => ?_⟩, ⟨?_, fun k hk => ?_⟩, ⟨?_, fun k hk => ?_⟩⟩
 ·show (mkL 1 x.keys).length ≤ _
  rw [jdp]; exact h.1.1
 ·have := jn6 _ _ k hk
  omega
 ·show (mkL (1 + x.keys.length) x.vals).length ≤ _
  rw [jdp]; exact h.2.1.1
 ·have := jn6 _ _ k hk
  omega
 ·show (mkN (1 + x.keys.length + x.vals.length) x.kids).length ≤ _
  rw [jga]; exact h.2.2.1
 ·have := joP _ _ k hk
  have h1 := h.1.1
  have h2 := h.2.1.1
  have h3 := h.2.2.1
  omega
theorem jq6 {x : PgT} (h : pageB x = true) : jrF brC (pageV x) = some (cB true, []) ∨ jrE brC (pageV x) = some (cB true, []) ∨ jrM brC (pageV x) = some (cB true, []) := by
 obtain ⟨p1, p2, p3, p4, p5, p6⟩ := jcf h
 obtain ⟨hsh, hsm⟩ := jjK h
 obtain ⟨h1, h2, h3, h4, h5, h6⟩ := jbm h
 have hs := jcg h
 have hy := jtp hsh
 have hid := jo3 x
 have e1 : holds (isPgS (pageV x)) = true := jad ⟨x, h, rfl⟩
 have ex : holds (x = x) = true := jad rfl
 have ey : holds (mkPg 1 x = mkPg 1 (mkPg 1 x)) = true := jad hid
 have iX := pgI hsh
 have aX' := pgA x
 have iY := pgI hy
 have aY := pgA (mkPg 1 x)
 have lk : (mkPg 1 x).keys.length = x.keys.length := jdp _ _
 have lv : (mkPg 1 x).vals.length = x.vals.length := jdp _ _
 have ld : (mkPg 1 x).kids.length = x.kids.length := jga _ _
 have l1 : isL (PV.sl x.keys.length (x.keys.map PV.str)) = true := jar hsh.1
 have l2 : isL (PV.sl x.vals.length (x.vals.map PV.str)) = true := jar hsh.2.1
 have l3 : isI (PV.sl x.kids.length (x.kids.map (PV.int .i64))) = true := jdf hsh.2.2
 have b1 : asL (PV.sl x.keys.length (x.keys.map PV.str)) = x.keys := jam _
 have b2 : asL (PV.sl x.vals.length (x.vals.map PV.str)) = x.vals := jam _
 have b3 : asI (PV.sl x.kids.length (x.kids.map (PV.int .i64))) = x.kids := jbd _
 have hd : decP (pageV x) = x := jos h
 have d1 : decide ((pageV x).size ≤ 2000000) = true := dT (by omega)
 have d2 : decide (((pageV x).size : Int) > 1048576) = false := dF (by omega)
 have hT : holds True = true := jad trivial
 have hz0 : Nat.beq 0 0 = true := rfl
 have hne0 : ((1 : Int) + ((0 : Nat) : Int) + ((0 : Nat) : Int) + ((0 : Nat) : Int) != 1) = false := by decide
 have q0 : ∀ a b c : Nat, decide (1 + (a : Int) + (b : Int) + (c : Int) < 0) = false := fun a b c => dF (by omega)
 cases hl : x.leaf with
 | true =>
  have p6 := p6 hl
  obtain ⟨v1, v2, v3⟩ := h3 hl
  have hml : (mkPg 1 x).leaf = true := hl
  have hmk : (mkPg 1 x).kids = [] := by show mkN _ x.kids = []; rw [p6]; rfl
  rw [hl, p6] at iX aX'
  rw [hml, hmk, lk, lv] at iY aY
  rw [p6, List.length_nil] at ld
  replace iX : isPg (PV.agg [PV.bool true, PV.sl x.keys.length (x.keys.map PV.str), PV.sl x.vals.length (x.vals.map PV.str), PV.sl 0 []]) = true := iX
  replace aX' : asPg (PV.agg [PV.bool true, PV.sl x.keys.length (x.keys.map PV.str), PV.sl x.vals.length (x.vals.map PV.str), PV.sl 0 []]) = x := aX'
  replace iY : isPg (PV.agg [PV.bool true, PV.sl x.keys.length ((mkL 1 x.keys).map PV.str), PV.sl x.vals.length ((mkL (1 + x.keys.length) x.vals).map PV.str), PV.sl 0 []]) = true := iY
  replace aY : asPg (PV.agg [PV.bool true, PV.sl x.keys.length ((mkL 1 x.keys).map PV.str), PV.sl x.vals.length ((mkL (1 + x.keys.length) x.vals).map PV.str), PV.sl 0 []]) = mkPg 1 x := aY
  by_cases hk : x.keys.length = 0
  ·have ek : x.keys = [] := List.length_eq_zero_iff.1 hk
   have ev : x.vals = [] := List.length_eq_zero_iff.1 (by omega)
   have hkz : Nat.beq x.keys.length 0 = true := by rw [hk]; rfl
   rw [ek, ev] at iX aX' iY aY
   replace iX : isPg (PV.agg [PV.bool true, PV.sl 0 [], PV.sl 0 [], PV.sl 0 []]) = true := iX
   replace aX' : asPg (PV.agg [PV.bool true, PV.sl 0 [], PV.sl 0 [], PV.sl 0 []]) = x := aX'
   replace aY : asPg (PV.agg [PV.bool true, PV.sl 0 [], PV.sl 0 [], PV.sl 0 []]) = mkPg 1 x := aY
   have exy : mkPg 1 x = x := aY.symm.trans aX'
   rw [exy] at ey
   have lv0 : x.vals.length = 0 := by omega
   have ld0 : x.kids.length = 0 := by rw [p6]; rfl
   left
   have tree := jol (pageV x)
   revert tree; try delta zzbc0; intro tree
   simp only [hd, d1, d2, e1, hl, hkz, iX, aX', ex, ey, hk, lv0, ld0, q0, hT, hz0, hne0, Bool.and_true, Bool.true_and, Bool.not_true, Bool.not_false, beq_self_eq_true, brT, brF] at tree
   exact tree.trans rfl
  ·have hkz : Nat.beq x.keys.length 0 = false := Bool.eq_false_iff.2 fun e => hk (nqB e)
   right
   left
   have tree := jn3 (pageV x)
   revert tree; try delta zzba1; intro tree
   revert tree; try delta zzba0; intro tree
   simp only [hd, d1, d2, e1, hl, hkz, l1, l2, b1, b2, iX, aX', iY, aY, ex, ey, lk, lv, ld, q0, hT, Nat.beq_refl, Bool.and_true, Bool.true_and, Bool.and_false, Bool.false_and, Bool.not_true, Bool.not_false, beq_self_eq_true, brT, brF] at tree
   refine tree.trans ?_
   rw [show ((1 : Int) + (x.keys.length : Int) + (x.vals.length : Int) + ((0 : Nat) : Int) != 1 + (x.keys.length : Int) + (x.vals.length : Int)) = false by rw [bne_eq_false_iff_eq]; omega]
   rfl
 | false =>
  obtain ⟨c1, c2, c3, c4⟩ := p5 hl
  have hml : (mkPg 1 x).leaf = false := hl
  have hmv : (mkPg 1 x).vals = [] := by show mkL _ x.vals = []; rw [c4]; rfl
  have hkd : (mkPg 1 x).kids = mkN (1 + x.keys.length) x.kids := by
   show mkN (1 + x.keys.length + x.vals.length) x.kids = _
   rw [c4, List.length_nil, show (1 : Int) + (x.keys.length : Int) + ((0 : Nat) : Int) = 1 + (x.keys.length : Int) by omega]
  rw [hl, c4] at iX aX'
  rw [hml, hmv, hkd, lk] at iY aY
  rw [c4, List.length_nil] at lv
  replace iX : isPg (PV.agg [PV.bool false, PV.sl x.keys.length (x.keys.map PV.str), PV.sl 0 [], PV.sl x.kids.length (x.kids.map (PV.int .i64))]) = true := iX
  replace aX' : asPg (PV.agg [PV.bool false, PV.sl x.keys.length (x.keys.map PV.str), PV.sl 0 [], PV.sl x.kids.length (x.kids.map (PV.int .i64))]) = x := aX'
  rw [jga] at iY aY
  replace iY : isPg (PV.agg [PV.bool false, PV.sl x.keys.length ((mkL 1 x.keys).map PV.str), PV.sl 0 [], PV.sl x.kids.length ((mkN (1 + x.keys.length) x.kids).map (PV.int .i64))]) = true := iY
  replace aY : asPg (PV.agg [PV.bool false, PV.sl x.keys.length ((mkL 1 x.keys).map PV.str), PV.sl 0 [], PV.sl x.kids.length ((mkN (1 + x.keys.length) x.kids).map (PV.int .i64))]) = mkPg 1 x := aY
  right
  right
  have tree := joE (pageV x)
  revert tree; try delta zzbb1; intro tree
  revert tree; try delta zzbb0; intro tree
  simp only [hd, d1, d2, e1, hl, l1, l3, b1, b3, iX, aX', iY, aY, ex, ey, lk, lv, ld, q0, hT, Nat.beq_refl, Bool.and_true, Bool.true_and, Bool.and_false, Bool.false_and, Bool.not_true, Bool.not_false, beq_self_eq_true, brT, brF] at tree
  refine tree.trans ?_
  rw [show ((1 : Int) + (x.keys.length : Int) + ((0 : Nat) : Int) + (x.kids.length : Int) != 1 + (x.keys.length : Int) + (x.kids.length : Int)) = false by rw [bne_eq_false_iff_eq]; omega]
  rfl
theorem jtF (s : ByteArray) (hp : ¬ isPgS s) : jrt brC s = some (cB true, []) := by
 have tree := jpQ s
 revert tree; try delta zzbd0; intro tree
 have hF : holds (isPgS s) = false := @decide_eq_false _ (Classical.propDecidable _) hp
 have s0 : shPg ⟨false, [], [], []⟩ := ⟨⟨Nat.zero_le _, fun _ h => by cases h⟩, ⟨Nat.zero_le _, fun _ h => by cases h⟩, ⟨Nat.zero_le _, fun _ h => by cases h⟩⟩
 have i0 : isPg (PV.agg [PV.bool false, PV.sl 0 [], PV.sl 0 [], PV.sl 0 []]) = true := pgI s0
 have a0 : asPg (PV.agg [PV.bool false, PV.sl 0 [], PV.sl 0 [], PV.sl 0 []]) = ⟨false, [], [], []⟩ := pgA ⟨false, [], [], []⟩
 have ex : holds ((⟨false, [], [], []⟩ : PgT) = ⟨false, [], [], []⟩) = true := jad rfl
 have ey : holds ((⟨false, [], [], []⟩ : PgT) = mkPg 1 ⟨false, [], [], []⟩) = true := jad rfl
 by_cases hz : (s.size : Int) > 1048576
 ·rw [dT hz] at tree
  exact tree.trans rfl
 ·rw [dF hz, dT (show s.size ≤ 2000000 by omega), hF] at tree
  have hT : holds True = true := jad trivial
  simp only [Bool.and_false, Bool.false_and, i0, a0, ex, ey, hT, Bool.and_true, Bool.true_and, Bool.not_true, Bool.not_false, beq_self_eq_true, brT, brF] at tree
  exact tree.trans rfl
theorem jk2 {E : Entry} (h : jah Tryz.prog (rjb3 E)) {s : ByteArray} (hq : evB brC Tryz.prog (rjb3 E) jei LO0 Tryz.f3 [cS s] = some (cB true, [])) : jaG Tryz.prog 3 ([.str s].map fun p => .cv (.pv p)) (.cv (.pv (.bool true))) [] :=
 jkG mix (jg4 (l := rjb3 E) h) (O := OL jei) (LO := LO0) ⟨Tryz.func3, by kernel_rfl, by kernel_rfl⟩ (by kernel_rfl) rfl (jap (by kernel_rfl)) hq
theorem jnW (s : ByteArray) : jaG Tryz.prog 3 ([.str s].map fun p => .cv (.pv p)) (.cv (.pv (.bool true))) [] := by
 obtain ⟨s1, s2, s3, s4⟩ := jo8 juh
 obtain ⟨g1, g2, g3, g4⟩ := jo8 ok_gp
 by_cases hp : isPgS s
 ·obtain ⟨x, hx, rfl⟩ := hp
  rcases jq6 hx with h | h | h
  ·exact jk2 (jh9 s1 g1) h
  ·exact jk2 (jh9 s2 g2) h
  ·exact jk2 (jh9 s3 g3) h
 ·exact jk2 (jh9 s4 g4) (jtF s hp)
theorem FnExactGetPage_walk (v : Value) (s : ByteArray) (w : World) (hv : PRep w (jbZ w) v (.str s)) (_ : s.size ≤ 2 ^ 63 - 1) (hgl : Gl w (jbZ w)) :
  Calls Tryz.prog 3 #[v] w fun e w' => e = .returned (.bool true) ∧ Below w.heap.size w w' := by
 cases hv
 have hc := jnW s
 exact hc.lawTop (w := w) (vals := [.string s]) (PReps.cons (.str s) (PReps.nil _ _)) hgl
end
section
end
end
end Go.Proofs.YtnjecdcbaeeeoaaGreatDoor
