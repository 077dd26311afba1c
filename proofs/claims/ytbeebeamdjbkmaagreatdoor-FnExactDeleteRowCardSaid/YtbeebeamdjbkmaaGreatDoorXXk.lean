import Derived.Test.YtbeebeamdjbkmaaGreatDoorXXj
import Derived.Test.YtbeebeamdjbkmaaGreatDoorXXe
namespace Go.Proofs.YtbeebeamdjbkmaaGreatDoor
noncomputable section
set_option linter.unusedVariables false
set_option maxRecDepth 100000
set_option linter.unusedSimpArgs false
section
theorem jnk (k : Int) : jtm brC k =
 brC (Nat.beq 75 75 && Nat.beq 0 0 && Nat.beq 0 0 && nilB [] && 0 == 0)
 (some ((.cv (.pv (.int .i64 k)), [[.lst 4 75 0 [] true]])))
 none := by kernel_rfl
def zzax0 (l : List ChT) (u : List ChT) (i : Int) := (PV.agg [PV.int .i64 (PV.asInt (List.headD (List.drop (Int.toNat i * 4) (encC l)) PV.nilp)), PV.str (PV.asStr (List.headD (List.tail (List.drop (Int.toNat i * 4) (encC l))) PV.nilp)), PV.sl (PV.slN (List.headD (List.tail (List.tail (List.drop (Int.toNat i * 4) (encC l)))) PV.nilp)) (PV.slL (List.headD (List.tail (List.tail (List.drop (Int.toNat i * 4) (encC l)))) PV.nilp)), PV.str (PV.asStr (List.headD (List.tail (List.tail (List.tail (List.drop (Int.toNat i * 4) (encC l))))) PV.nilp))])
def zzax1 (l : List ChT) (u : List ChT) (i : Int) := (PV.agg [PV.int .i64 (PV.asInt (List.headD (List.drop (Int.toNat i * 4) (encC u)) PV.nilp)), PV.str (PV.asStr (List.headD (List.tail (List.drop (Int.toNat i * 4) (encC u))) PV.nilp)), PV.sl (PV.slN (List.headD (List.tail (List.tail (List.drop (Int.toNat i * 4) (encC u)))) PV.nilp)) (PV.slL (List.headD (List.tail (List.tail (List.drop (Int.toNat i * 4) (encC u)))) PV.nilp)), PV.str (PV.asStr (List.headD (List.tail (List.tail (List.tail (List.drop (Int.toNat i * 4) (encC u))))) PV.nilp))])
theorem jgP (l : List ChT) (u : List ChT) (i : Int) : jte brC l u i =
 brC (decide (i < (↑(List.length l) : Int)))
 (brC (decide (0 ≤ i) && decide (i < (↑(List.length l) : Int)))
 (brC (Nat.ble 4 (List.length (List.drop (Int.toNat i * 4) (encC l))) && (PV.isInt .i64 (List.headD (List.drop (Int.toNat i * 4) (encC l)) PV.nilp) && (PV.isStr (List.headD (List.tail (List.drop (Int.toNat i * 4) (encC l))) PV.nilp) && (PV.isSl (List.headD (List.tail (List.tail (List.drop (Int.toNat i * 4) (encC l)))) PV.nilp) && (PV.isStr (List.headD (List.tail (List.tail (List.tail (List.drop (Int.toNat i * 4) (encC l))))) PV.nilp) && true && true) && true) && true) && true) && true)
 (brC (decide (0 ≤ i) && decide (i < (↑(List.length u) : Int)))
 (brC (Nat.ble 4 (List.length (List.drop (Int.toNat i * 4) (encC u))) && (PV.isInt .i64 (List.headD (List.drop (Int.toNat i * 4) (encC u)) PV.nilp) && (PV.isStr (List.headD (List.tail (List.drop (Int.toNat i * 4) (encC u))) PV.nilp) && (PV.isSl (List.headD (List.tail (List.tail (List.drop (Int.toNat i * 4) (encC u)))) PV.nilp) && (PV.isStr (List.headD (List.tail (List.tail (List.tail (List.drop (Int.toNat i * 4) (encC u))))) PV.nilp) && true && true) && true) && true) && true) && true)
 (brC (isC (zzax0 l u i) && isC (zzax1 l u i))
 (brC (!holds (asC (zzax0 l u i) = asC (zzax1 l u i)))
 (some (.inr (.ret, [(.pv (.sl (List.length l) (encC l)), none), (.pv (.bool false), none)])))
 (some (.inl [(.pv (.sl (List.length l) (encC l)), none), (.pv (.sl (List.length u) (encC u)), none), (.pv (.int .i64 (IntKind.wrap .i64 (i + 1))), none)])))
 none)
 none)
 none)
 none)
 none)
 (some (.inr (.exit 0, [(.pv (.sl (List.length l) (encC l)), none), (.bad, none)]))) := by kernel_rfl
def zzay0 (l : List ChT) (k : Int) (i : Int) := (PV.sl (PV.slN (List.headD (List.drop 2 (List.drop (Int.toNat i * 4) (encC l))) PV.nilp)) (PV.slL (List.headD (List.drop 2 (List.drop (Int.toNat i * 4) (encC l))) PV.nilp)))
theorem jio (l : List ChT) (k : Int) (i : Int) : ju9 brC l k i =
 brC (decide (i < (↑(List.length l) : Int)))
 (brC (decide (0 ≤ i) && decide (i < (↑(List.length l) : Int)))
 (brC (Nat.blt 0 (List.length (List.drop 0 (List.drop (Int.toNat i * 4) (encC l)))) && PV.isInt .i64 (List.headD (List.drop 0 (List.drop (Int.toNat i * 4) (encC l))) PV.nilp) && true)
 (brC (PV.asInt (List.headD (List.drop 0 (List.drop (Int.toNat i * 4) (encC l))) PV.nilp) != k)
 (some (.inr (.ret, [(.pv (.int .i64 k), none)])))
 (brC (decide (0 ≤ i) && decide (i < (↑(List.length l) : Int)))
 (brC (Nat.blt 0 (List.length (List.drop 1 (List.drop (Int.toNat i * 4) (encC l)))) && PV.isStr (List.headD (List.drop 1 (List.drop (Int.toNat i * 4) (encC l))) PV.nilp) && true)
 (brC (decide (1 ≤ IntKind.wrap .i64 (k + 1)) && holds (IntKind.wrap .i64 (k + 1) ≤ 1000000000))
 (brC (!ByteArray.toList (PV.asStr (List.headD (List.drop 1 (List.drop (Int.toNat i * 4) (encC l))) PV.nilp)) == ByteArray.toList (mkV (IntKind.wrap .i64 (k + 1))))
 (some (.inr (.ret, [(.pv (.int .i64 (IntKind.wrap .i64 (k + 1))), none)])))
 (brC (decide (0 ≤ i) && decide (i < (↑(List.length l) : Int)))
 (brC (Nat.blt 0 (List.length (List.drop 2 (List.drop (Int.toNat i * 4) (encC l)))) && PV.isSl (List.headD (List.drop 2 (List.drop (Int.toNat i * 4) (encC l))) PV.nilp) && true)
 (brC (isL (zzay0 l k i) && decide (1 ≤ IntKind.wrap .i64 (IntKind.wrap .i64 (k + 1) + 1)) && holds (IntKind.wrap .i64 (IntKind.wrap .i64 (k + 1) + 1) ≤ 900000000) && holds (asL (zzay0 l k i) = mkL (IntKind.wrap .i64 (IntKind.wrap .i64 (k + 1) + 1)) (asL (zzay0 l k i))))
 (brC (decide (IntKind.wrap .i64 (IntKind.wrap .i64 (k + 1) + 1) + (↑(List.length (asL (zzay0 l k i))) : Int) < 0))
 (some (.inr (.ret, [(.pv (.int .i64 (IntKind.wrap .i64 (IntKind.wrap .i64 (k + 1) + 1) + (↑(List.length (asL (zzay0 l k i))) : Int))), none)])))
 (brC (decide (0 ≤ i) && decide (i < (↑(List.length l) : Int)))
 (brC (Nat.blt 0 (List.length (List.drop 3 (List.drop (Int.toNat i * 4) (encC l)))) && PV.isStr (List.headD (List.drop 3 (List.drop (Int.toNat i * 4) (encC l))) PV.nilp) && true)
 (brC (decide (1 ≤ IntKind.wrap .i64 (IntKind.wrap .i64 (k + 1) + 1) + (↑(List.length (asL (zzay0 l k i))) : Int)) && holds (IntKind.wrap .i64 (IntKind.wrap .i64 (k + 1) + 1) + (↑(List.length (asL (zzay0 l k i))) : Int) ≤ 1000000000))
 (brC (!ByteArray.toList (PV.asStr (List.headD (List.drop 3 (List.drop (Int.toNat i * 4) (encC l))) PV.nilp)) == ByteArray.toList (mkV (IntKind.wrap .i64 (IntKind.wrap .i64 (k + 1) + 1) + (↑(List.length (asL (zzay0 l k i))) : Int))))
 (some (.inr (.ret, [(.pv (.int .i64 (IntKind.wrap .i64 (IntKind.wrap .i64 (k + 1) + 1) + (↑(List.length (asL (zzay0 l k i))) : Int))), none)])))
 (some (.inl [(.pv (.sl (List.length l) (encC l)), none), (.pv (.int .i64 (IntKind.wrap .i64 (IntKind.wrap .i64 (IntKind.wrap .i64 (k + 1) + 1) + (↑(List.length (asL (zzay0 l k i))) : Int) + 1))), none), (.pv (.int .i64 (IntKind.wrap .i64 (i + 1))), none)])))
 none)
 none)
 none))
 none)
 none)
 none))
 none)
 none)
 none))
 none)
 none)
 (some (.inr (.exit 0, [(.pv (.int .i64 k), none)]))) := by kernel_rfl
def zzaz0 (n : Nat) (l : List PV) (k : Int) (i : Int) := (List.take (Int.toNat i * 4 + 1) (List.take (Int.toNat i * 4 + 0) l ++ [PV.int .i64 k] ++ List.drop (Int.toNat i * 4 + 0 + 1) l) ++ [PV.str (mkV (IntKind.wrap .i64 (k + 1)))] ++ List.drop (Int.toNat i * 4 + 1 + 1) (List.take (Int.toNat i * 4 + 0) l ++ [PV.int .i64 k] ++ List.drop (Int.toNat i * 4 + 0 + 1) l))
def zzaz1 (n : Nat) (l : List PV) (k : Int) (i : Int) := (PV.sl (PV.slN (List.headD (List.drop (Int.toNat i * 4 + 2) (zzaz0 n l k i)) PV.nilp)) (PV.slL (List.headD (List.drop (Int.toNat i * 4 + 2) (zzaz0 n l k i)) PV.nilp)))
def zzaz2 (n : Nat) (l : List PV) (k : Int) (i : Int) := (List.take (Int.toNat i * 4 + 2) (zzaz0 n l k i) ++ [PV.sl (PV.slN (List.headD (List.drop (Int.toNat i * 4 + 2) (zzaz0 n l k i)) PV.nilp)) (List.map PV.str (mkL (IntKind.wrap .i64 (IntKind.wrap .i64 (k + 1) + 1)) (asL (zzaz1 n l k i))))] ++ List.drop (Int.toNat i * 4 + 2 + 1) (zzaz0 n l k i))
theorem jjB (n : Nat) (l : List PV) (k : Int) (i : Int) : jvk brC n l k i =
 brC (decide (i < (↑n : Int)))
 (brC (decide (0 ≤ i) && decide (i < (↑n : Int)))
 (brC (Nat.ble (Int.toNat i * 4 + 0 + 1) (List.length l) && noKid 75 4 (Int.toNat i * 4 + 0))
 (brC (decide (1 ≤ IntKind.wrap .i64 (k + 1)) && holds (IntKind.wrap .i64 (k + 1) ≤ 1000000000))
 (brC (decide (0 ≤ i) && decide (i < (↑n : Int)))
 (brC (Nat.ble (Int.toNat i * 4 + 1 + 1) (List.length (List.take (Int.toNat i * 4 + 0) l ++ [PV.int .i64 k] ++ List.drop (Int.toNat i * 4 + 0 + 1) l)) && noKid 75 4 (Int.toNat i * 4 + 1))
 (brC (decide (0 ≤ i) && decide (i < (↑n : Int)))
 (brC (Nat.blt (Int.toNat i * 4 + 2) (List.length (zzaz0 n l k i)) && (PV.isSl (List.headD (List.drop (Int.toNat i * 4 + 2) (zzaz0 n l k i)) PV.nilp) && isKid 75 4 (Int.toNat i * 4 + 2) 1 9))
 (brC (isL (zzaz1 n l k i) && Nat.beq 9 9 && decide (1 ≤ IntKind.wrap .i64 (IntKind.wrap .i64 (k + 1) + 1)) && holds (IntKind.wrap .i64 (IntKind.wrap .i64 (k + 1) + 1) ≤ 900000000))
 (brC (decide (1 ≤ IntKind.wrap .i64 (IntKind.wrap .i64 (k + 1) + 1) + (↑(List.length (asL (zzaz1 n l k i))) : Int)) && holds (IntKind.wrap .i64 (IntKind.wrap .i64 (k + 1) + 1) + (↑(List.length (asL (zzaz1 n l k i))) : Int) ≤ 1000000000))
 (brC (decide (0 ≤ i) && decide (i < (↑n : Int)))
 (brC (Nat.ble (Int.toNat i * 4 + 3 + 1) (List.length (zzaz2 n l k i)) && noKid 75 4 (Int.toNat i * 4 + 3))
 (some (.inl [(.own 0, some (.dls 4 75 n (List.take (Int.toNat i * 4 + 3) (zzaz2 n l k i) ++ [PV.str (mkV (IntKind.wrap .i64 (IntKind.wrap .i64 (k + 1) + 1) + (↑(List.length (asL (zzaz1 n l k i))) : Int)))] ++ List.drop (Int.toNat i * 4 + 3 + 1) (zzaz2 n l k i)) true none)), (.pv (.int .i64 (IntKind.wrap .i64 (IntKind.wrap .i64 (IntKind.wrap .i64 (k + 1) + 1) + (↑(List.length (asL (zzaz1 n l k i))) : Int) + 1))), none), (.pv (.int .i64 (IntKind.wrap .i64 (i + 1))), none)]))
 none)
 none)
 none)
 none)
 none)
 none)
 none)
 none)
 none)
 none)
 none)
 (some (.inr (.exit 0, [(.own 0, some (.dls 4 75 n l true none)), (.pv (.int .i64 k), none)]))) := by kernel_rfl
theorem jop (n : Nat) (l : List PV) (k : Int) : jv8 brC n l k =
 brC (isCs (PV.sl n l) && Nat.beq (75 + 2000000 - 2000000) 75 && Nat.beq 0 0 && 0 == 0 && decide (1 ≤ k) && holds (k ≤ 100000000) && holds (mkChE k (asCs (PV.sl n l)) ≤ 800000000))
 (brC (Nat.beq n n)
 (some ((.cv (.pv (.int .i64 (mkChE k (asCs (PV.sl n l))))), [[.dls 4 75 n (encC (mkChs k (asCs (PV.sl n l))))]])))
 none)
 none := by kernel_rfl
theorem jm9 (k : Int) (i : Int) : juH brC k i =
 brC (decide (i < (↑0 : Int)))
 (brC (decide (0 ≤ i) && decide (i < (↑0 : Int)))
 none
 none)
 (some (.inr (.exit 0, [(.pv (.sl 0 []), none), (.pv (.int .i64 k), none)]))) := by kernel_rfl
theorem jmt (l : List ChT) (u : List ChT) : jtD brC l u =
 brC ((↑(List.length l) : Int) != (↑(List.length u) : Int))
 (some ((.cv (.pv (.bool false)), [])))
 (brC (isCs (pCs l) && isCs (pCs u) && 0 == 0 && decide (List.length (asCs (pCs l)) = List.length (asCs (pCs u))) && holds (asCs (pCs l) = asCs (pCs u)))
 (some ((.cv (.pv (.bool true)), [])))
 (brC (isCs (pCs l) && isCs (pCs u) && 0 == 0 && decide (List.length (asCs (pCs l)) = List.length (asCs (pCs u))))
 (some ((.cv (.pv (.bool false)), [])))
 none)) := by kernel_rfl
theorem jm6 (k : Int) : jun brC k =
 brC (Nat.beq 0 0 && nilB [] && 0 == 0)
 (some ((.cv (.pv (.int .i64 k)), [])))
 none := by kernel_rfl
theorem jm7 (k : Int) (i : Int) : jt9 brC k i =
 brC (decide (i < (↑0 : Int)))
 (brC (decide (0 ≤ i) && decide (i < (↑0 : Int)))
 none
 none)
 (some (.inr (.exit 0, [(.own 0, some (.lst 4 75 0 [] true)), (.pv (.int .i64 k), none)]))) := by kernel_rfl
theorem jpM (x : ChT) (y : ChT) : jvA brC x y =
 brC (ChT.kind x != ChT.kind y)
 (some ((.cv (.pv (.bool false)), [])))
 (brC (!ByteArray.toList (ChT.name x) == ByteArray.toList (ChT.name y))
 (some ((.cv (.pv (.bool false)), [])))
 (brC (isL (PV.sl (List.length (ChT.subs x)) (List.map PV.str (ChT.subs x))) && isL (PV.sl (List.length (ChT.subs y)) (List.map PV.str (ChT.subs y))))
 (brC (!holds (asL (PV.sl (List.length (ChT.subs x)) (List.map PV.str (ChT.subs x))) = asL (PV.sl (List.length (ChT.subs y)) (List.map PV.str (ChT.subs y)))))
 (some ((.cv (.pv (.bool false)), [])))
 (brC (!ByteArray.toList (ChT.value x) == ByteArray.toList (ChT.value y))
 (some ((.cv (.pv (.bool false)), [])))
 (some ((.cv (.pv (.bool true)), [])))))
 none)) := by kernel_rfl
theorem jpm (l : List ChT) (k : Int) : jvH brC l k =
 brC (isCs (pCs l) && 0 == 0 && decide (1 ≤ k) && holds (k ≤ 100000000) && holds (mkChE k (asCs (pCs l)) ≤ 800000000) && holds (asCs (pCs l) = mkChs k (asCs (pCs l))))
 (some ((.cv (.pv (.int .i64 (mkChE k (asCs (pCs l))))), [])))
 none := by kernel_rfl
end
section
open Go.RowKit
def cCh (pre : List PV) (a b c d : PV) (post : List PV) : List PV := pre ++ a :: b :: c :: d :: post
theorem jlv {pre : List PV} {i : Nat} (h : pre.length = i * 4) (j : Nat) (mid : List PV) (x : PV) : List.take (i * 4 + j) (pre ++ mid) ++ [x] ++ List.drop (i * 4 + j + 1) (pre ++ mid) = pre ++ (mid.take j ++ [x] ++ mid.drop (j + 1)) := by
 rw [← h, List.take_length_add_append, Nat.add_assoc, List.drop_length_add_append]
 simp only [List.append_assoc]
theorem jvh {pre : List PV} {i : Nat} (h : pre.length = i * 4) (a b c d z : PV) (post : List PV) : List.take (i * 4 + 0) (cCh pre a b c d post) ++ [z] ++ List.drop (i * 4 + 0 + 1) (cCh pre a b c d post) = cCh pre z b c d post := jlv h 0 _ z
theorem jvY {pre : List PV} {i : Nat} (h : pre.length = i * 4) (a b c d z : PV) (post : List PV) : List.take (i * 4 + 1) (cCh pre a b c d post) ++ [z] ++ List.drop (i * 4 + 1 + 1) (cCh pre a b c d post) = cCh pre a z c d post := jlv h 1 _ z
theorem jwo {pre : List PV} {i : Nat} (h : pre.length = i * 4) (a b c d z : PV) (post : List PV) : List.take (i * 4 + 2) (cCh pre a b c d post) ++ [z] ++ List.drop (i * 4 + 2 + 1) (cCh pre a b c d post) = cCh pre a b z d post := jlv h 2 _ z
theorem jwp {pre : List PV} {i : Nat} (h : pre.length = i * 4) (a b c d z : PV) (post : List PV) : List.take (i * 4 + 3) (cCh pre a b c d post) ++ [z] ++ List.drop (i * 4 + 3 + 1) (cCh pre a b c d post) = cCh pre a b c z post := jlv h 3 _ z
theorem jol {pre : List PV} {i : Nat} (h : pre.length = i * 4) (a b c d : PV) (post : List PV) : (cCh pre a b c d post).length = i * 4 + 4 + post.length := by
 unfold cCh
 rw [nqG, h]
 simp only [nqH]
 omega
theorem cCh_b {pre : List PV} {i : Nat} (h : pre.length = i * 4) (a b c d : PV) (post : List PV) (j : Nat) (hj : j < 4) : Nat.ble (i * 4 + j + 1) (cCh pre a b c d post).length = true := Nat.ble_eq_true_of_le (by rw [jol h]; omega)
theorem juQ (i : Nat) : noKid 75 4 (i * 4 + 0) = true := by
 unfold noKid
 rw [show (i * 4 + 0) % 4 = 0 by omega]
 kernel_rfl
theorem juD (i : Nat) : noKid 75 4 (i * 4 + 1) = true := by
 unfold noKid
 rw [show (i * 4 + 1) % 4 = 1 by omega]
 kernel_rfl
theorem jwg {pre : List PV} {i : Nat} (h : pre.length = i * 4) (a b c d : PV) (post : List PV) : Nat.blt (i * 4 + 2) (cCh pre a b c d post).length = true := Nat.ble_eq_true_of_le (by rw [jol h]; omega)
theorem jvT {pre : List PV} {i : Nat} (h : pre.length = i * 4) (a b c d : PV) (post : List PV) : List.headD (List.drop (i * 4 + 2) (cCh pre a b c d post)) PV.nilp = c := by
 unfold cCh
 rw [← h, List.drop_length_add_append]
 rfl
theorem juR (i : Nat) : isKid 75 4 (i * 4 + 2) 1 9 = true := by
 unfold isKid
 rw [show (i * 4 + 2) % 4 = 2 by omega]
 kernel_rfl
theorem ju2 (i : Nat) : noKid 75 4 (i * 4 + 3) = true := by
 unfold noKid
 rw [show (i * 4 + 3) % 4 = 3 by omega]
 kernel_rfl
theorem jdU : ∀ (k : Int) (l : List ChT), (mkChs k l).length = l.length
 | k, [] => rfl
 | k, x :: t => by unfold mkChs; rw [nqH, nqH, jdU _ t]
theorem jnc (y : ChT) (u : List ChT) : encC (y :: u) = [PV.int .i64 y.kind, PV.str y.name, PV.sl y.subs.length (y.subs.map .str), PV.str y.value] ++ encC u := rfl
theorem je1 : ∀ (l : List ChT) (k : Int), k ≤ mkChE k l
 | [], k => Int.le_refl _
 | x :: t, k => by
  have := je1 t (k + 3 + (x.subs.length : Int))
  show k ≤ mkChE (k + 3 + (x.subs.length : Int)) t
  omega
theorem jps (n : Nat) (hn : n ≤ 1048576) : ∀ (l : List ChT) (i : Nat) (pre : List PV) (k : Int), i + l.length = n → pre.length = i * 4 → (∀ x ∈ l, shC x) → 1 ≤ k → mkChE k l ≤ 800000000 →
  LoopsTo (rdB brC Tryz.prog kfb1 jbJ jdc Tryz.f27 2 [0]) [aWCh (pre ++ encC l) n, aI k, aI i] (.exit 0, [aWCh (pre ++ encC (mkChs k l)) n, aI (mkChE k l)]) := by
 intro l
 induction l with
 | nil =>
  intro i pre k hi hp hl h1 h2
  refine .done _ _ ((jjB _ _ _ _).trans ?_)
  try delta zzaz2
  try delta zzaz1
  try delta zzaz0
  rw [List.length_nil] at hi
  rw [dF (by omega)]
  rfl
 | cons x t ih =>
  intro i pre k hi hp hl h1 h2
  rw [nqH] at hi
  have hx := hl x (List.mem_cons_self ..)
  have hxl2 : shL x.subs := hx.2.1
  have hz2 : x.subs.length ≤ 1048576 := hxl2.1
  have hE : mkChE (k + 3 + (x.subs.length : Int)) t ≤ 800000000 := h2
  have hG := je1 t (k + 3 + (x.subs.length : Int))
  have tree := jjB n (cCh pre (.int .i64 x.kind) (.str x.name) (.sl x.subs.length (x.subs.map .str)) (.str x.value) (encC t)) k i
  revert tree; try delta zzaz2; intro tree
  revert tree; try delta zzaz1; intro tree
  revert tree; try delta zzaz0; intro tree
  have w0 : IntKind.wrap .i64 (k + 1) = k + 1 := by rw [wrapI (by omega) (by omega)]
  have wi0 : IntKind.wrap .i64 (k) = k := wrapI (by omega) (by omega)
  have hs1 : holds (k + 1 ≤ 1000000000) = true := jak (by omega)
  have ds1 : decide (1 ≤ k + 1) = true := dT (by omega)
  have w1 : IntKind.wrap .i64 (k + 1 + 1) = k + 2 := by rw [wrapI (by omega) (by omega)]; omega
  have hs2 : holds (k + 2 ≤ 900000000) = true := jak (by omega)
  have ds2 : decide (1 ≤ k + 2) = true := dT (by omega)
  have dn2 : decide (k + 2 + (x.subs.length : Int) < 0) = false := dF (by omega)
  have il2 : isE pL shL (PV.sl x.subs.length (x.subs.map .str)) = true := jaj hxl2
  have al2 : asE pL (PV.sl x.subs.length (x.subs.map .str)) = x.subs := jag x.subs
  have hs3 : holds (k + 2 + (x.subs.length : Int) ≤ 1000000000) = true := jak (by omega)
  have ds3 : decide (1 ≤ k + 2 + (x.subs.length : Int)) = true := dT (by omega)
  have w3 : IntKind.wrap .i64 (k + 2 + (x.subs.length : Int) + 1) = k + 3 + (x.subs.length : Int) := by rw [wrapI (by omega) (by omega)]; omega
  have d0 : decide ((i : Int) < (n : Int)) = true := dT (by omega)
  have d1 : decide (0 ≤ (i : Int)) = true := dT (by omega)
  simp only [nqF, d0, d1, wrap1 (show i ≤ 2305843009213693952 by omega), jvh hp, jvY hp, jwo hp, jwp hp, cCh_b hp _ _ _ _  _ 0 (by decide), cCh_b hp _ _ _ _  _ 1 (by decide), cCh_b hp _ _ _ _  _ 2 (by decide), cCh_b hp _ _ _ _  _ 3 (by decide), jwg hp, jvT hp, PV.isSl, PV.slN, PV.slL, juQ i, juD i, juR i, ju2 i, isL, asL, Nat.beq_refl, jck, w0, wi0, hs1, ds1, w1, hs2, ds2, dn2, il2, al2, hs3, ds3, w3, Bool.and_true, Bool.true_and] at tree
  have := ih (i + 1) (pre ++ [.int .i64 (k), .str (mkV (k + 1)), .sl x.subs.length ((mkL (k + 2) x.subs).map .str), .str (mkV (k + 2 + (x.subs.length : Int)))]) (k + 3 + (x.subs.length : Int)) (by omega) (by rw [nqG, hp]; simp only [nqH, List.length_nil]; omega) (fun y hy => hl y (List.mem_cons_of_mem _ hy)) (by omega) hE
  rw [List.append_assoc, List.append_assoc] at this
  have e : pre ++ encC (mkChs k (x :: t)) = pre ++ ([.int .i64 (k), .str (mkV (k + 1)), .sl x.subs.length ((mkL (k + 2) x.subs).map .str), .str (mkV (k + 2 + (x.subs.length : Int)))] ++ encC (mkChs (k + 3 + (x.subs.length : Int)) t)) := by
   rw [show mkChs k (x :: t) = mkCh k x :: mkChs (k + 3 + (x.subs.length : Int)) t from rfl, jnc]
   simp only [mkCh, jck] <;> rfl
  rw [e]
  exact .step _ _ _ tree this
theorem jgR : ∀ b ∈ jas (jaW Tryz.f27), ja0 Tryz.prog (tabL kfb1) (OL jbJ) Tryz.f27.ntmps (pbOf [0]) jdc b := by
 refine jar 2 (by kernel_rfl) (by kernel_rfl) (by kernel_rfl) ?_
 intro ls e ls' hl
 replace hl : pickA (jfh ls) = some (e, ls') := hl
 unfold jfh at hl
 split at hl
 ·rename_i x e n l k i
  obtain ⟨hc, he⟩ := pick1 hl
  cases he
  obtain ⟨hc, g6⟩ := andE hc
  obtain ⟨hc, g5⟩ := andE hc
  obtain ⟨hc, g4⟩ := andE hc
  obtain ⟨hc, g3⟩ := andE hc
  obtain ⟨hc, g2⟩ := andE hc
  obtain ⟨g0, g1⟩ := andE hc
  obtain ⟨t, q_t, h_t⟩ := jae g0
  injection q_t with qa qb
  subst qa
  subst qb
  have e_t : asE pCs (.sl t.length (encC t)) = t := jbx t
  obtain rfl := nqB g1
  obtain rfl := nqB g2
  obtain rfl := eq_of_beq g3
  unfold asCs
  rw [e_t]
  have g5 := jan g5
  unfold asCs at g6
  rw [e_t] at g6
  exact jps t.length h_t.1 t 0 [] k (by omega) rfl h_t.2 (nqI g4) (jan g6)
 ·rename_i x e n l k i
  obtain ⟨hc, he⟩ := pick1 hl
  cases he
  obtain ⟨hc, g4⟩ := andE hc
  obtain ⟨hc, g3⟩ := andE hc
  obtain ⟨hc, g2⟩ := andE hc
  obtain ⟨g0, g1⟩ := andE hc
  obtain rfl := nqB g0
  obtain rfl := nqB g1
  obtain rfl := nqB g2
  obtain rfl := jbe g3
  obtain rfl := eq_of_beq g4
  refine .done _ _ ((jm7 k 0).trans ?_)
  rw [dF (by omega)]
  rfl
 ·cases hl
theorem jjI : ∀ b ∈ jas (jaW Tryz.f27), ja0 Tryz.prog (tabL kfb1) (OL jbJ) Tryz.f27.ntmps (pbOf []) jdF b := by
 refine jar 2 (by kernel_rfl) (by kernel_rfl) (by kernel_rfl) ?_
 intro ls e ls' hl
 unfold jdF at hl
 split at hl
 ·rename_i n l k i
  obtain ⟨hc, he⟩ := pick1 hl
  cases he
  obtain ⟨hc, g2⟩ := andE hc
  obtain ⟨g0, g1⟩ := andE hc
  obtain rfl := nqB g0
  obtain rfl := jbe g1
  obtain rfl := eq_of_beq g2
  refine .done _ _ ((jm9 k 0).trans ?_)
  rw [dF (by omega)]
  rfl
 ·cases hl
theorem jrl : jab Tryz.prog 27 E_mkCha := jac mix jhA (lp := jbJ) (LO := jdc) ⟨Tryz.func27, by kernel_rfl, by kernel_rfl⟩ (by kernel_rfl) fun ivs res bxs h => by
 unfold E_mkCha at h
 split at h
 ·rename_i e n l k
  rcases pick2 h with ⟨hc, he⟩ | ⟨hn, hc, he⟩
  ·cases he
   obtain ⟨hc, g4⟩ := andE hc
   obtain ⟨hc, gm⟩ := andE hc
   obtain ⟨g2, g3⟩ := jhb gm
   obtain ⟨g0, g1⟩ := andE hc
   obtain rfl := nqB g0
   refine ⟨jgR, (jop n l k).trans ?_⟩
   rw [g1, g2, g3, g4, Nat.beq_refl n]
   rfl
  ·cases he
   obtain ⟨hc, g2⟩ := andE hc
   obtain ⟨g0, g1⟩ := andE hc
   obtain rfl := nqB g0
   obtain rfl := nqB g1
   obtain rfl := jbe g2
   refine ⟨jgR, (jnk k).trans ?_⟩
   rw [jca]
   rfl
 ·cases h
theorem jsE : jab Tryz.prog 27 E_mkChb := jac mix jhA (lp := jbJ) (LO := jdF) ⟨Tryz.func27, by kernel_rfl, by kernel_rfl⟩ (by kernel_rfl) fun ivs res bxs h => by
 unfold E_mkChb at h
 split at h
 ·rename_i n l k
  obtain ⟨hc, he⟩ := pick1 h
  cases he
  obtain ⟨g0, g1⟩ := andE hc
  obtain rfl := nqB g0
  obtain rfl := jbe g1
  refine ⟨jjI, (jm6 k).trans ?_⟩
  rw [jca]
  rfl
 ·cases h
theorem juA : jab Tryz.prog 27 E_mkCh := jdJ jrl jsE
theorem joq (k : Int) (x : ChT) : mkCh k (mkCh k x) = mkCh k x := by
 unfold mkCh
 simp only [jck, jk4]
theorem jlp (k : Int) (x : ChT) : (fun x : ChT => (k + 3 + (x.subs.length : Int) : Int)) (mkCh k x) = k + 3 + (x.subs.length : Int) := by
 unfold mkCh
 simp only [jck]
theorem jgL : ∀ (k : Int) (l : List ChT), mkChs k (mkChs k l) = mkChs k l
 | k, [] => rfl
 | k, x :: t => by
  show mkCh k (mkCh k x) :: mkChs ((fun x : ChT => (k + 3 + (x.subs.length : Int) : Int)) (mkCh k x)) (mkChs (k + 3 + (x.subs.length : Int)) t) = mkCh k x :: mkChs (k + 3 + (x.subs.length : Int)) t
  rw [joq, jlp, jgL]
theorem jlX : ∀ (k : Int) (l : List ChT), mkChE k (mkChs k l) = mkChE k l
 | k, [] => rfl
 | k, x :: t => by
  show mkChE ((fun x : ChT => (k + 3 + (x.subs.length : Int) : Int)) (mkCh k x)) (mkChs (k + 3 + (x.subs.length : Int)) t) = mkChE (k + 3 + (x.subs.length : Int)) t
  rw [jlp, jlX]
theorem jod : ∀ (l u : List ChT) (i : Nat) (k : Int), u = l.drop i → i + u.length = l.length → l.length ≤ 1048576 → (∀ x ∈ u, shC x) → 1 ≤ k → mkChE k u ≤ 800000000 → u = mkChs k u →
  LoopsTo (rdB brC Tryz.prog kfb4 jg3 jhD Tryz.f28 2 []) [aP (pCs l), aI k, aI i] (.exit 0, [aI (mkChE k u)]) := by
 intro l u
 induction u with
 | nil =>
  intro i k hu hi hn hl h1 h2 hd
  refine .done _ _ ((jio _ _ _).trans ?_)
  try delta zzay0
  rw [List.length_nil] at hi
  rw [dF (by omega)]
  rfl
 | cons x t ih =>
  intro i k hu hi hn hl h1 h2 hd
  rw [nqH] at hi
  have hil : i < l.length := by omega
  have hx := hl x (List.mem_cons_self ..)
  have hxl2 : shL x.subs := hx.2.1
  have hz2 : x.subs.length ≤ 1048576 := hxl2.1
  have hE : mkChE (k + 3 + (x.subs.length : Int)) t ≤ 800000000 := h2
  have hG := je1 t (k + 3 + (x.subs.length : Int))
  have tree := jio l k i
  revert tree; try delta zzay0; intro tree
  rw [nqK hil] at hu
  injection hu with hu1 hu2
  have hdr := jdr l i hil
  rw [← hu1, ← hu2] at hdr
  rw [show mkChs k (x :: t) = mkCh k x :: mkChs (k + 3 + (x.subs.length : Int)) t from rfl] at hd
  injection hd with hd1 hd2
  have ff0 : x.kind = k := congrArg ChT.kind hd1
  have ff1 : x.name = mkV (k + 1) := congrArg ChT.name hd1
  have ff2 : x.subs = mkL (k + 2) x.subs := congrArg ChT.subs hd1
  have ff3 : x.value = mkV (k + 2 + (x.subs.length : Int)) := congrArg ChT.value hd1
  have hh2 : holds (x.subs = mkL (k + 2) x.subs) = true := jak ff2
  have w0 : IntKind.wrap .i64 (k + 1) = k + 1 := by rw [wrapI (by omega) (by omega)]
  have wi0 : IntKind.wrap .i64 (k) = k := wrapI (by omega) (by omega)
  have hs1 : holds (k + 1 ≤ 1000000000) = true := jak (by omega)
  have ds1 : decide (1 ≤ k + 1) = true := dT (by omega)
  have w1 : IntKind.wrap .i64 (k + 1 + 1) = k + 2 := by rw [wrapI (by omega) (by omega)]; omega
  have hs2 : holds (k + 2 ≤ 900000000) = true := jak (by omega)
  have ds2 : decide (1 ≤ k + 2) = true := dT (by omega)
  have dn2 : decide (k + 2 + (x.subs.length : Int) < 0) = false := dF (by omega)
  have il2 : isE pL shL (PV.sl x.subs.length (x.subs.map .str)) = true := jaj hxl2
  have al2 : asE pL (PV.sl x.subs.length (x.subs.map .str)) = x.subs := jag x.subs
  have hs3 : holds (k + 2 + (x.subs.length : Int) ≤ 1000000000) = true := jak (by omega)
  have ds3 : decide (1 ≤ k + 2 + (x.subs.length : Int)) = true := dT (by omega)
  have w3 : IntKind.wrap .i64 (k + 2 + (x.subs.length : Int) + 1) = k + 3 + (x.subs.length : Int) := by rw [wrapI (by omega) (by omega)]; omega
  have d0 : decide ((i : Int) < (l.length : Int)) = true := dT (by omega)
  have d1 : decide (0 ≤ (i : Int)) = true := dT (by omega)
  simp only [nqF, hdr, List.drop_zero, List.drop_succ_cons, d0, d1, wrap1 (show i ≤ 2305843009213693952 by omega), nqH, List.headD_cons, List.tail_cons, PV.isStr, PV.asStr, PV.isBool, PV.asBool, PV.isInt, PV.asInt, PV.isSl, PV.slN, PV.slL, ble1, ble2, ble3, ble4, ble5, ble6, blt0, isL, asL, Nat.beq_refl, w0, wi0, hs1, ds1, w1, hs2, ds2, dn2, il2, al2, hs3, ds3, w3, hh2, Bool.and_true, Bool.true_and] at tree
  have bb0 : (k != k) = false := bne_self_eq_false _
  have bb1 : (x.name.toList == (mkV (k + 1)).toList) = true := by rw [← ff1]; exact beq_self_eq_true _
  have bb3 : (x.value.toList == (mkV (k + 2 + (x.subs.length : Int))).toList) = true := by rw [← ff3]; exact beq_self_eq_true _
  rw [ff0, bb0, bb1, bb3] at tree
  have := ih (i + 1) (k + 3 + (x.subs.length : Int)) hu2 (by omega) hn (fun y hy => hl y (List.mem_cons_of_mem _ hy)) (by omega) hE hd2
  exact .step _ _ _ tree this
theorem juq : jab Tryz.prog 28 E_hdCh := jac mix jtp (lp := jg3) (LO := jhD) ⟨Tryz.func28, by kernel_rfl, by kernel_rfl⟩ (by kernel_rfl) fun ivs res bxs h => by
 unfold E_hdCh at h
 split at h
 ·rename_i p k
  obtain ⟨hc, he⟩ := pick1 h
  cases he
  obtain ⟨hc, k4⟩ := andE hc
  obtain ⟨hc, k3⟩ := andE hc
  obtain ⟨k0, km⟩ := andE hc
  obtain ⟨k1, k2⟩ := jhb km
  obtain ⟨t, rfl, h_t⟩ := jae k0
  have e_t : asCs (pCs t) = t := jbx t
  refine ⟨jar 2 (by kernel_rfl) (by kernel_rfl) (by kernel_rfl) ?_, (jpm t k).trans ?_⟩
  ·intro ls e ls' hl
   replace hl : pickA (je5 ls) = some (e, ls') := hl
   unfold je5 at hl
   split at hl
   ·rename_i p k i
    obtain ⟨hc, he⟩ := pick1 hl
    cases he
    obtain ⟨hc, g5⟩ := andE hc
    obtain ⟨hc, g4⟩ := andE hc
    obtain ⟨hc, g3⟩ := andE hc
    obtain ⟨hc, g2⟩ := andE hc
    obtain ⟨g0, g1⟩ := andE hc
    obtain ⟨t, rfl, h_t⟩ := jae g0
    have e_t : asCs (pCs t) = t := jbx t
    obtain rfl := eq_of_beq g1
    rw [e_t] at g4 g5 ⊢
    have g3 := jan g3
    exact jod t t 0 k rfl (by omega) h_t.1 h_t.2 (nqI g2) (jan g4) (jan g5)
   ·cases hl
  ·rw [e_t] at k3 k4 ⊢
   rw [k0, k1, k2, k3, k4]
   rfl
 ·cases h
theorem eqvCh (x y : ChT) : holds (x = y) = ((x.kind == y.kind) && ((x.name.toList == y.name.toList) && (holds (x.subs = y.subs) && ((x.value.toList == y.value.toList))))) := by
 rw [Bool.eq_iff_iff]
 constructor
 ·intro h
  have e := jan h
  subst e
  simp only [show ∀ z : List ByteArray, holds (z = z) = true from fun _ => jak rfl, show holds True = true from jak trivial, beq_self_eq_true, Bool.and_true]
 ·intro h
  simp only [nqE, beq_iff_eq] at h
  obtain ⟨h0, h1, h2, h3⟩ := h
  have h2 := jan h2
  cases x
  cases y
  dsimp only at h0 h1 h2 h3
  rw [h0, ba_tl h1, h2, ba_tl h3]
  exact jak rfl
theorem jt2 : jab Tryz.prog 68 E_eqCh := jac mix jnK (lp := []) (LO := LO0) ⟨Tryz.func68, by kernel_rfl, by kernel_rfl⟩ (by kernel_rfl) fun ivs res bxs h => by
 unfold E_eqCh at h
 split at h
 ·rename_i p q
  obtain ⟨hc, he⟩ := pick1 h
  cases he
  obtain ⟨k0, k1⟩ := andE hc
  obtain ⟨x, rfl, h_x⟩ := jae k0
  obtain ⟨y, rfl, h_y⟩ := jae k1
  have e_x : asC (pC x) = x := jpL x
  have e_y : asC (pC y) = y := jpL y
  rw [e_x, e_y, eqvCh]
  refine ⟨jap (by kernel_rfl), (jpM x y).trans ?_⟩
  have ix2 := jaj h_x.2.1
  have iy2 := jaj h_y.2.1
  simp only [isL, jag, ix2, iy2, Bool.and_true]
  unfold bne
  generalize (x.kind == y.kind) = g0
  generalize (x.name.toList == y.name.toList) = g1
  generalize holds (x.subs = y.subs) = g2
  generalize (x.value.toList == y.value.toList) = g3
  cases g0 <;> cases g1 <;> cases g2 <;> cases g3 <;> rfl
 ·cases h
theorem jrx : jad Tryz.prog eqbCh := ⟨jt2, trivial⟩
theorem jmJ (l u : List ChT) (h_l : shCs l) (h_u : shCs u) (hlu : l.length = u.length) : ∀ (m i : Nat), m + i = l.length → LoopsTo (rdB brC Tryz.prog eqbCh jdN jdw Tryz.f22 4 []) [aP (pCs l), aP (pCs u), aI i] (if holds (l.drop i = u.drop i) = true then (.exit 0, [aP (pCs l), aX]) else (.ret, [aP (pCs l), aB false])) := by
 have hl := h_l.1
 intro m
 induction m with
 | zero =>
  intro i hm
  rw [List.drop_eq_nil_of_le (show l.length ≤ i by omega), List.drop_eq_nil_of_le (show u.length ≤ i by omega), if_pos (jak rfl)]
  refine .done _ _ ((jgP l u i).trans ?_)
  try delta zzax1
  try delta zzax0
  rw [dF (by omega)]
  rfl
 | succ m ih =>
  intro i hm
  have hi : i < l.length := by omega
  have hiu : i < u.length := by omega
  have tree := jgP l u i
  revert tree; try delta zzax1; intro tree
  revert tree; try delta zzax0; intro tree
  simp (disch := first | omega | rfl) only [isC, jsW (js3 h_l hi), jsW (js3 h_u hiu), jpL, dT, nqF, jdr l i hi, jdr u i hiu, nqH, List.headD_cons, List.tail_cons, PV.isStr, PV.asStr, PV.isSl, PV.slN, PV.slL, PV.isBool, PV.asBool, PV.isInt, PV.asInt, ble1, ble2, ble3, ble4, ble5, ble6, blt0, wrap1, Bool.and_true, Bool.true_and] at tree
  have ih' := ih (i + 1) (by omega)
  rw [nqK hi, nqK hiu]
  cases hb : holds (l[i] = u[i]) with
  | true =>
   rw [hb] at tree
   have e : l[i] = u[i] := jan hb
   have e2 : holds (l[i] :: List.drop (i + 1) l = u[i] :: List.drop (i + 1) u) = holds (List.drop (i + 1) l = List.drop (i + 1) u) := by
    congr 1
    rw [e]
    exact propext ⟨fun h => by injection h, fun h => by rw [h]⟩
   rw [e2]
   exact .step _ _ _ tree ih'
  | false =>
   rw [hb] at tree
   rw [if_neg (fun h => by
    have := jan h
    injection this with h1 _
    rw [jak h1] at hb
    cases hb)]
   exact .done _ _ tree
theorem jst : jab Tryz.prog 22 E_eqChs := jac mix jrx (lp := jdN) (LO := jdw) ⟨Tryz.func22, by kernel_rfl, by kernel_rfl⟩ (by kernel_rfl) fun ivs res bxs h => by
 unfold E_eqChs at h
 split at h
 ·rename_i p q
  obtain ⟨hc, he⟩ := pick1 h
  cases he
  obtain ⟨k0, k1⟩ := andE hc
  obtain ⟨l, rfl, h_l⟩ := jae k0
  obtain ⟨u, rfl, h_u⟩ := jae k1
  have e_l : asCs (pCs l) = l := jbx l
  have e_u : asCs (pCs u) = u := jbx u
  have i_l : isCs (pCs l) = true := jeb h_l
  have i_u : isCs (pCs u) = true := jeb h_u
  rw [e_l, e_u]
  refine ⟨jar 4 (by kernel_rfl) (by kernel_rfl) (by kernel_rfl) ?_, ?_⟩
  ·intro ls e ls' hl
   replace hl : pickA (jd5 ls) = some (e, ls') := hl
   unfold jd5 at hl
   split at hl
   ·rename_i p q i
    have key : (isCs p && isCs q && (i == 0) && decide ((asCs p).length = (asCs q).length)) = true → LoopsTo (rdB brC Tryz.prog eqbCh jdN jdw Tryz.f22 4 []) [aP p, aP q, aI i] (if holds (asCs p = asCs q) = true then (.exit 0, [aP p, aX]) else (.ret, [aP p, aB false])) := fun hc => by
     obtain ⟨hc, g3⟩ := andE hc
     obtain ⟨hc, g2⟩ := andE hc
     obtain ⟨g0, g1⟩ := andE hc
     obtain ⟨t, rfl, h_t⟩ := jae g0
     obtain ⟨v, rfl, h_v⟩ := jae g1
     have e_t : asCs (pCs t) = t := jbx t
     have e_v : asCs (pCs v) = v := jbx v
     rw [e_t, e_v] at g3 ⊢
     rw [eq_of_beq g2]
     exact jmJ t v h_t h_v (nqI g3) t.length 0 rfl
    rcases pick2 hl with ⟨hc, he⟩ | ⟨hn, hc, he⟩
    ·cases he
     obtain ⟨hc, k⟩ := andE hc
     have := key hc
     rw [if_pos k] at this
     exact this
    ·cases he
     have := key hc
     rw [hc, Bool.true_and] at hn
     rw [hn, if_neg Bool.false_ne_true] at this
     exact this
   ·cases hl
  ·have tree := jmt l u
   rw [i_l, i_u, e_l, e_u] at tree
   by_cases hlen : l.length = u.length
   ·have hb : (((l.length : Nat) : Int) == ((u.length : Nat) : Int)) = true := beq_iff_eq.2 (by omega)
    have hb2 : (((l.length : Nat) : Int) != ((u.length : Nat) : Int)) = false := by unfold bne; rw [hb]; rfl
    simp only [hb, hb2, decide_eq_true hlen, Bool.and_true, Bool.true_and, beq_self_eq_true] at tree
    cases hh : holds (l = u) with
    | true => rw [hh] at tree; exact tree.trans rfl
    | false => rw [hh] at tree; exact tree.trans rfl
   ·have hb : (((l.length : Nat) : Int) == ((u.length : Nat) : Int)) = false := beq_eq_false_iff_ne.2 (by omega)
    have hb2 : (((l.length : Nat) : Int) != ((u.length : Nat) : Int)) = true := by unfold bne; rw [hb]; rfl
    have hh : holds (l = u) = false := @decide_eq_false _ (Classical.propDecidable _) fun e => hlen (by rw [e])
    simp only [hb, hb2] at tree
    rw [hh]
    exact tree.trans rfl
 ·cases h
end
section
open Go.RowKit
def cellX (b : TblT) (l : List ByteArray) (c : ByteArray) : ByteArray := l.getD (posS b.cols c).toNat ⟨#[]⟩
def fstS (l : List ByteArray) : ByteArray := Classical.choose (⟨l.headD ⟨#[]⟩, rfl⟩ : ∃ x, x = l.headD ⟨#[]⟩)
theorem jpN (l : List ByteArray) : fstS l = l.headD ⟨#[]⟩ := Classical.choose_spec (⟨l.headD ⟨#[]⟩, rfl⟩ : ∃ x, x = l.headD ⟨#[]⟩)
def okC (b : TblT) (l : List ByteArray) (c : ByteArray) : Bool := decide (0 ≤ posS b.cols c) && decide (posS b.cols c < l.length)
def chI (kind : Int) (b : TblT) (l : List ByteArray) (c : ByteArray) : List ChT := bif ((cellX b l c).toList == []) then [] else [⟨kind, b.glob, [⟨#[105]⟩, c, cellX b l c, l.headD ⟨#[]⟩], ⟨#[]⟩⟩]
def chIs (kind : Int) (b : TblT) (l : List ByteArray) (cs : List ByteArray) : List ChT := cs.flatMap (chI kind b l)
def sgb0 : List (FuncId × Entry) := [(100, E_place)]
def jwq (br : Br) (b : TblT) (l : List ByteArray) (c : ByteArray) := evB br Tryz.prog sgb0 [] LO0 Tryz.f65 [cP (pTb b), cP (.agg [pL l]), cS c]
def E_cell : Entry := fun ivs => match ivs with
 | [.cv (.pv p), .cv (.pv (.agg [q])), .cv (.pv (.str c))] => [(isTb p && isL q && okC (asTb p) (asL q) c, cS (cellX (asTb p) (asL q) c), [])]
 | _ => []
def sgb1 : List (FuncId × Entry) := (65, E_cell) :: sgb0
abbrev jlV : List (Nat × List Nat × List Nat) := [(1000000, [25], []), (1000002, [27], [])]
def jpf (br : Br) (b : TblT) (kind : Int) (l : List ByteArray) (c : ByteArray) := evB br Tryz.prog sgb1 jlV LO0 Tryz.f67 [cP (pTb b), cI kind, cP (.agg [pL l]), cS c]
def jtR (br : Br) (b : TblT) (l : List ByteArray) := evB br Tryz.prog [] [(1000000, [15], [22])] LO0 Tryz.f64 [cP (pTb b), cI 2, cP (.agg [pL l])]
def E_inode0 : Entry := fun ivs => match ivs with
 | [.cv (.pv p), .cv (.pv (.int .i64 k)), .cv (.pv (.agg [q])), .cv (.pv (.str c))] =>
  [(isTb p && isL q && okC (asTb p) (asL q) c && ((cellX (asTb p) (asL q) c).toList == []), .cv (.pv .nils), []),
   (isTb p && isL q && okC (asTb p) (asL q) c, .cv (.dls 4 75 1 (encC (chI k (asTb p) (asL q) c))), [])]
 | _ => []
def E_inode : Entry := fun ivs => match ivs with
 | [.cv (.pv p), .cv (.pv (.int .i64 k)), .cv (.pv (.agg [q])), .cv (.pv (.str c))] =>
  [(isTb p && isL q && okC (asTb p) (asL q) c, .cv (.dls 4 75 (chI k (asTb p) (asL q) c).length (encC (chI k (asTb p) (asL q) c))), [])]
 | _ => []
def sgb2 : List (FuncId × Entry) := (67, E_inode) :: sgb1
abbrev jgp : List (Nat × List Nat × List Nat) := [(3, [1, 3, 5, 7, 12, 13, 14], [7]), (1000000, [10], [])]
abbrev bxRw (slot : Nat) (l : List ByteArray) : AV × Option Ob := aBx slot [.pv (pL l)]
abbrev aC0 (slot : Nat) : AV × Option Ob := (.own (4096 * slot), some (.lst 4 75 0 [] true))
abbrev aCd (slot : Nat) (n : Nat) (l : List PV) : AV × Option Ob := (.own (4096 * slot), some (.dls 4 75 n l true none))
def jg8 (ls : LS) : List (Bool × Ex × LS) := match ls with
 | [(.pv (.int .i64 k), none), (.ptr x 0, some (.box [.pv (.str s), .pv (.str g), .pv q, .pv r])), (.ptr y 0, some (.box [.pv u])), (.own z, some (.lst 4 e 0 [] true)), (.pv p, none), (.pv (.int .i64 n), none), (.pv (.int .i64 i), none)] =>
  [(isTb (.agg [.str s, .str g, q, r]) && isL u && isL p && Nat.beq x 12288 && Nat.beq y 20480 && Nat.beq z 28672 && Nat.beq e 75 && (n == ((asL p).length : Int)) && (i == 0) && Nat.beq (asL p).length 0, .exit 0, [aC0 7]),
   (isTb (.agg [.str s, .str g, q, r]) && isL u && isL p && Nat.beq x 12288 && Nat.beq y 20480 && Nat.beq z 28672 && Nat.beq e 75 && (n == ((asL p).length : Int)) && (i == 0) && (asL p).all (okC (asTb (.agg [.str s, .str g, q, r])) (asL u)), .exit 0, [aCd 7 (chIs k (asTb (.agg [.str s, .str g, q, r])) (asL u) (asL p)).length (encC (chIs k (asTb (.agg [.str s, .str g, q, r])) (asL u) (asL p)))])]
 | _ => []
def jgi : LoopT := fun k ls => bif Nat.beq k 3 then jg8 ls else []
def jvz (br : Br) (kd : Int) (b : TblT) (l cs : List ByteArray) (i : Int) := rdB br Tryz.prog sgb2 jgp jgi Tryz.f81 3 [] [aI kd, bxTb 3 b, bxRw 5 l, aC0 7, aP (pL cs), aI cs.length, aI i]
def jv4 (br : Br) (kd : Int) (b : TblT) (l cs : List ByteArray) (i : Int) (u : List ChT) := rdB br Tryz.prog sgb2 jgp jgi Tryz.f81 3 [] [aI kd, bxTb 3 b, bxRw 5 l, aCd 7 u.length (encC u), aP (pL cs), aI cs.length, aI i]
def q_ins (br : Br) (b : TblT) (kd : Int) (l : List ByteArray) := evB br Tryz.prog sgb2 jgp jgi Tryz.f81 [cP (pTb b), cI kd, cP (.agg [pL l])]
def E_ins0 : Entry := fun ivs => match ivs with
 | [.cv (.pv p), .cv (.pv (.int .i64 k)), .cv (.pv (.agg [q]))] =>
  [(isTb p && isL q && Nat.beq (asTb p).idxs.length 0, .cv (.lst 4 75 0 [] true), []),
   (isTb p && isL q && (asTb p).idxs.all (okC (asTb p) (asL q)), .cv (.dls 4 75 (chIs k (asTb p) (asL q) (asTb p).idxs).length (encC (chIs k (asTb p) (asL q) (asTb p).idxs))), [])]
 | _ => []
def E_ins : Entry := fun ivs => match ivs with
 | [.cv (.pv p), .cv (.pv (.int .i64 k)), .cv (.pv (.agg [q]))] =>
  [(isTb p && isL q && (asTb p).idxs.all (okC (asTb p) (asL q)), .cv (.dls 4 75 (chIs k (asTb p) (asL q) (asTb p).idxs).length (encC (chIs k (asTb p) (asL q) (asTb p).idxs))), [])]
 | _ => []
def E_rnode : Entry := fun ivs => match ivs with
 | [.cv (.pv p), .cv (.pv (.int .i64 k)), .cv (.pv (.agg [q]))] =>
  [(isTb p && isL q && (k == 2) && decide (1 ≤ (asL q).length), .agg [.pv (.int .i64 2), .pv (.str (asTb p).glob), .lst 1 9 2 [.str ⟨#[114]⟩, .str (fstS (asL q))] true, .pv (.str ⟨#[]⟩)], [])]
 | _ => []
def E_irA : Entry := fun ivs => match ivs with
 | [.cv (.pv p), .cv (.pv q), .cv (.pv (.str k))] => [(isT p && isTb q && ((rowX (asT p) (asTb q) k).1 == 0), .tup [.agg [rwC (rowX (asT p) (asTb q) k).2], cI 0], [])]
 | _ => []
def E_rB : Entry := fun ivs => match ivs with
 | [.cv (.pv p), .cv (.pv q), .cv (.pv (.str k))] => [(isT p && isTb q && !((rowX (asT p) (asTb q) k).1 == 0), .tup [.agg [.pv .nils], cI (rowX (asT p) (asTb q) k).1], [])]
 | _ => []
def sgb3 : List (FuncId × Entry) := (30, E_irA) :: (64, E_rnode) :: [(81, E_ins)]
def sgb4 : List (FuncId × Entry) := [(30, E_rB)]
def jvQ (br : Br) (t : List NodeT) (b : TblT) (k : ByteArray) := evB br Tryz.prog sgb3 [(1000002, [23], []), (2000020, [8, 0, 21], [])] LO0 Tryz.f40 [cP (pT t), cP (pTb b), cS k]
def jv1 (br : Br) (t : List NodeT) (b : TblT) (k : ByteArray) := evB br Tryz.prog sgb4 [(1000002, [23], []), (2000020, [8, 0, 21], [])] LO0 Tryz.f40 [cP (pT t), cP (pTb b), cS k]
def sgs0 : List (FuncId × Entry) := [(60, E_place)]
def q_lix (br : Br) (b : TblT) (l : List ByteArray) (c : ByteArray) (kd : Int) := evB br Tryz.prog sgs0 [] LO0 Tryz.f49 [cP (pTb b), cP (.agg [pL l]), cS c, cI kd]
def E_lix : Entry := fun ivs => match ivs with
 | [.cv (.pv p), .cv (.pv (.agg [q])), .cv (.pv (.str c)), .cv (.pv (.int .i64 k))] =>
  [(isTb p && isL q && okC (asTb p) (asL q) c, cP (pCs (chI k (asTb p) (asL q) c)), [])]
 | _ => []
def sgs1 : List (FuncId × Entry) := (45, E_TreeOk) :: (46, E_STb) :: (58, E_lra) :: [(49, E_lix)]
abbrev jea : List (Nat × List Nat × List Nat) := [(8, [4, 8, 10, 11], [10])]
abbrev aFc (slot : Nat) (l : List ChT) : AV × Option Ob := (.own (4096 * slot), some (.lst 4 75 l.length (encC l) false))
def jfS (ls : LS) : List (Bool × Ex × LS) := match ls with
 | [(.ptr x 0, some (.box [.pv (.str s), .pv (.str g), .pv q, .pv r])), (.ptr y 0, some (.box [.pv u])), (.own z, some (.lst 4 e n l false)), (.pv (.int .i64 i), none)] =>
  [(isTb (.agg [.str s, .str g, q, r]) && isL u && isCs (.sl n l) && Nat.beq x 16384 && Nat.beq y 32768 && Nat.beq z 40960 && Nat.beq e 75 && (i == 0) && (asTb (.agg [.str s, .str g, q, r])).idxs.all (okC (asTb (.agg [.str s, .str g, q, r])) (asL u)) && decide (n ≤ 1), .exit 0, [aFc 10 (asCs (.sl n l) ++ chIs 2 (asTb (.agg [.str s, .str g, q, r])) (asL u) (asTb (.agg [.str s, .str g, q, r])).idxs)])]
 | _ => []
def jdZ : LoopT := fun k ls => bif Nat.beq k 8 then jfS ls else []
def jvL (br : Br) (b : TblT) (l : List ByteArray) (u : List ChT) (i : Int) := rdB br Tryz.prog sgs1 jea jdZ Tryz.f39 8 [] [bxTb 4 b, bxRw 8 l, aFc 10 u, aI i]
def jvd (br : Br) (t : List NodeT) (b : TblT) (k : ByteArray) := evB br Tryz.prog sgs1 jea jdZ Tryz.f39 [cP (pT t), cP (pTb b), cS k]
def delX (t : List NodeT) (b : TblT) (k : ByteArray) : List ChT := Classical.choose (⟨_, rfl⟩ : ∃ x, x = (⟨2, b.glob, [⟨#[114]⟩, k], ⟨#[]⟩⟩ : ChT) :: chIs 2 b (rowX t b k).2 b.idxs)
theorem jkr (t : List NodeT) (b : TblT) (k : ByteArray) : delX t b k = (⟨2, b.glob, [⟨#[114]⟩, k], ⟨#[]⟩⟩ : ChT) :: chIs 2 b (rowX t b k).2 b.idxs := Classical.choose_spec (⟨_, rfl⟩ : ∃ x, x = (⟨2, b.glob, [⟨#[114]⟩, k], ⟨#[]⟩⟩ : ChT) :: chIs 2 b (rowX t b k).2 b.idxs)
def E_DelA : Entry := fun ivs => match ivs with
 | [.cv (.pv p), .cv (.pv q), .cv (.pv (.str k))] => [(isT p && isTb q && ((rowX (asT p) (asTb q) k).1 == 0), .tup [.cv (.dls 4 75 (delX (asT p) (asTb q) k).length (encC (delX (asT p) (asTb q) k))), cI 0], [])]
 | _ => []
def E_DelB : Entry := fun ivs => match ivs with
 | [.cv (.pv p), .cv (.pv q), .cv (.pv (.str k))] => [(isT p && isTb q && !((rowX (asT p) (asTb q) k).1 == 0), .tup [.cv (.pv .nils), cI (rowX (asT p) (asTb q) k).1], [])]
 | _ => []
def E_sDelA : Entry := fun ivs => match ivs with
 | [.cv (.pv p), .cv (.pv q), .cv (.pv (.str k))] => [(isT p && isTb q && ((rowX (asT p) (asTb q) k).1 == 0), .tup [cP (pCs (delX (asT p) (asTb q) k)), cI 0], [])]
 | _ => []
def E_sDelB : Entry := fun ivs => match ivs with
 | [.cv (.pv p), .cv (.pv q), .cv (.pv (.str k))] => [(isT p && isTb q && !((rowX (asT p) (asTb q) k).1 == 0), .tup [cP (pCs []), cI (rowX (asT p) (asTb q) k).1], [])]
 | _ => []
end
section
def zzba0 (b : TblT) (kind : Int) (l : List ByteArray) (c : ByteArray) := (PV.agg [PV.str (TblT.name b), PV.str (TblT.glob b), PV.sl (List.length (TblT.cols b)) (List.map PV.str (TblT.cols b)), PV.sl (List.length (TblT.idxs b)) (List.map PV.str (TblT.idxs b))])
theorem jm4 (b : TblT) (kind : Int) (l : List ByteArray) (c : ByteArray) : jpf brC b kind l c =
 brC (isTb (zzba0 b kind l c) && isL (PV.sl (List.length l) (List.map PV.str l)) && okC (asTb (zzba0 b kind l c)) (asL (PV.sl (List.length l) (List.map PV.str l))) c)
 (brC (ByteArray.toList (cellX (asTb (zzba0 b kind l c)) (asL (PV.sl (List.length l) (List.map PV.str l))) c) == [])
 (some ((.cv (.pv .nils), [])))
 (brC (decide (0 ≤ 0) && decide (0 < (↑(List.length l) : Int)))
 (brC (Nat.blt 0 (List.length (List.drop 0 (List.map PV.str l))) && PV.isStr (List.headD (List.drop 0 (List.map PV.str l)) PV.nilp) && true)
 (some ((.cv (.dls 4 75 1 [PV.int .i64 kind, PV.str (TblT.glob b), PV.sl 4 [PV.str { data := #[105] }, PV.str c, PV.str (cellX (asTb (zzba0 b kind l c)) (asL (PV.sl (List.length l) (List.map PV.str l))) c), PV.str (PV.asStr (List.headD (List.drop 0 (List.map PV.str l)) PV.nilp))], PV.str { data := #[] }]), [])))
 none)
 none))
 none := by kernel_rfl
theorem jr5 (b : TblT) (kd : Int) (l : List ByteArray) : q_ins brC b kd l =
 brC (isTb (PV.agg [PV.str (TblT.name b), PV.str (TblT.glob b), pL (TblT.cols b), pL (TblT.idxs b)]) && isL (pL l) && isL (pL (TblT.idxs b)) && Nat.beq 12288 12288 && Nat.beq 20480 20480 && Nat.beq 28672 28672 && Nat.beq 75 75 && (↑(List.length (TblT.idxs b)) : Int) == (↑(List.length (asL (pL (TblT.idxs b)))) : Int) && 0 == 0 && Nat.beq (List.length (asL (pL (TblT.idxs b)))) 0)
 (some ((.cv (.lst 4 75 0 [] true), [])))
 (brC (isTb (PV.agg [PV.str (TblT.name b), PV.str (TblT.glob b), pL (TblT.cols b), pL (TblT.idxs b)]) && isL (pL l) && isL (pL (TblT.idxs b)) && Nat.beq 12288 12288 && Nat.beq 20480 20480 && Nat.beq 28672 28672 && Nat.beq 75 75 && (↑(List.length (TblT.idxs b)) : Int) == (↑(List.length (asL (pL (TblT.idxs b)))) : Int) && 0 == 0 && List.all (asL (pL (TblT.idxs b))) (okC (asTb (PV.agg [PV.str (TblT.name b), PV.str (TblT.glob b), pL (TblT.cols b), pL (TblT.idxs b)])) (asL (pL l))))
 (some ((.cv (.dls 4 75 (List.length (chIs kd (asTb (PV.agg [PV.str (TblT.name b), PV.str (TblT.glob b), pL (TblT.cols b), pL (TblT.idxs b)])) (asL (pL l)) (asL (pL (TblT.idxs b))))) (encC (chIs kd (asTb (PV.agg [PV.str (TblT.name b), PV.str (TblT.glob b), pL (TblT.cols b), pL (TblT.idxs b)])) (asL (pL l)) (asL (pL (TblT.idxs b)))))), [])))
 none) := by kernel_rfl
def zzbc0 (t : List NodeT) (b : TblT) (k : ByteArray) := (PV.agg [PV.str (TblT.name b), PV.str (TblT.glob b), PV.sl (List.length (TblT.cols b)) (List.map PV.str (TblT.cols b)), PV.sl (List.length (TblT.idxs b)) (List.map PV.str (TblT.idxs b))])
def zzbc1 (t : List NodeT) (b : TblT) (k : ByteArray) := (PV.sl (List.length (Prod.snd (rowX (asT (PV.agg [PV.sl (List.length t) (encN t)])) (asTb (zzbc0 t b k)) k))) (List.map PV.str (Prod.snd (rowX (asT (PV.agg [PV.sl (List.length t) (encN t)])) (asTb (zzbc0 t b k)) k))))
theorem jpx (t : List NodeT) (b : TblT) (k : ByteArray) : jvQ brC t b k =
 brC (isT (PV.agg [PV.sl (List.length t) (encN t)]) && isTb (zzbc0 t b k) && Prod.fst (rowX (asT (PV.agg [PV.sl (List.length t) (encN t)])) (asTb (zzbc0 t b k)) k) == 0)
 (brC (isTb (zzbc0 t b k) && isL (zzbc1 t b k) && 2 == 2 && decide (1 ≤ List.length (asL (zzbc1 t b k))))
 (brC (isTb (zzbc0 t b k) && isL (zzbc1 t b k) && List.all (TblT.idxs (asTb (zzbc0 t b k))) (okC (asTb (zzbc0 t b k)) (asL (zzbc1 t b k))))
 (brC (decide (1 + List.length (chIs 2 (asTb (zzbc0 t b k)) (asL (zzbc1 t b k)) (TblT.idxs (asTb (zzbc0 t b k)))) ≤ 140737488351232) && decide ((1 + List.length (chIs 2 (asTb (zzbc0 t b k)) (asL (zzbc1 t b k)) (TblT.idxs (asTb (zzbc0 t b k))))) * 64 ≤ 140737488355328))
 (some ((.tup [.cv (.dls 4 75 (1 + List.length (chIs 2 (asTb (zzbc0 t b k)) (asL (zzbc1 t b k)) (TblT.idxs (asTb (zzbc0 t b k))))) (PV.int .i64 (Int.ofNat 2) :: PV.str (TblT.glob (asTb (zzbc0 t b k))) :: PV.sl 2 [PV.str { data := #[114] }, PV.str (fstS (asL (zzbc1 t b k)))] :: PV.str { data := #[] } :: List.append._f [] PUnit.unit (encC (chIs 2 (asTb (zzbc0 t b k)) (asL (zzbc1 t b k)) (TblT.idxs (asTb (zzbc0 t b k))))))), .cv (.pv (.int .i64 (Int.ofNat 0)))], [])))
 none)
 none)
 none)
 none := by kernel_rfl
theorem jox (t : List NodeT) (b : TblT) (k : ByteArray) : jv1 brC t b k =
 brC (isT (PV.agg [PV.sl (List.length t) (encN t)]) && isTb (PV.agg [PV.str (TblT.name b), PV.str (TblT.glob b), PV.sl (List.length (TblT.cols b)) (List.map PV.str (TblT.cols b)), PV.sl (List.length (TblT.idxs b)) (List.map PV.str (TblT.idxs b))]) && !Prod.fst (rowX (asT (PV.agg [PV.sl (List.length t) (encN t)])) (asTb (PV.agg [PV.str (TblT.name b), PV.str (TblT.glob b), PV.sl (List.length (TblT.cols b)) (List.map PV.str (TblT.cols b)), PV.sl (List.length (TblT.idxs b)) (List.map PV.str (TblT.idxs b))])) k) == 0)
 (brC (Prod.fst (rowX (asT (PV.agg [PV.sl (List.length t) (encN t)])) (asTb (PV.agg [PV.str (TblT.name b), PV.str (TblT.glob b), PV.sl (List.length (TblT.cols b)) (List.map PV.str (TblT.cols b)), PV.sl (List.length (TblT.idxs b)) (List.map PV.str (TblT.idxs b))])) k) != 0)
 (some ((.tup [.cv (.pv .nils), .cv (.pv (.int .i64 (Prod.fst (rowX (asT (PV.agg [PV.sl (List.length t) (encN t)])) (asTb (PV.agg [PV.str (TblT.name b), PV.str (TblT.glob b), PV.sl (List.length (TblT.cols b)) (List.map PV.str (TblT.cols b)), PV.sl (List.length (TblT.idxs b)) (List.map PV.str (TblT.idxs b))])) k))))], [])))
 none)
 none := by kernel_rfl
theorem jo3 (b : TblT) (l : List ByteArray) (c : ByteArray) : jwq brC b l c =
 brC (isL (PV.sl (List.length (TblT.cols b)) (List.map PV.str (TblT.cols b))))
 (brC (decide (0 ≤ posS (asL (PV.sl (List.length (TblT.cols b)) (List.map PV.str (TblT.cols b)))) c) && decide (posS (asL (PV.sl (List.length (TblT.cols b)) (List.map PV.str (TblT.cols b)))) c < (↑(List.length l) : Int)))
 (brC (Nat.blt 0 (List.length (List.drop (Int.toNat (posS (asL (PV.sl (List.length (TblT.cols b)) (List.map PV.str (TblT.cols b)))) c) * 1) (List.map PV.str l))) && PV.isStr (List.headD (List.drop (Int.toNat (posS (asL (PV.sl (List.length (TblT.cols b)) (List.map PV.str (TblT.cols b)))) c) * 1) (List.map PV.str l)) PV.nilp) && true)
 (some ((.cv (.pv (.str (PV.asStr (List.headD (List.drop (Int.toNat (posS (asL (PV.sl (List.length (TblT.cols b)) (List.map PV.str (TblT.cols b)))) c) * 1) (List.map PV.str l)) PV.nilp)))), [])))
 none)
 none)
 none := by kernel_rfl
def zzbd0 (b : TblT) (l : List ByteArray) (u : List ChT) (i : Int) := (chI 2 (asTb (PV.agg [PV.str (TblT.name b), PV.str (TblT.glob b), PV.sl (List.length (TblT.cols b)) (List.map PV.str (TblT.cols b)), PV.sl (List.length (TblT.idxs b)) (List.map PV.str (TblT.idxs b))])) (asL (PV.sl (List.length l) (List.map PV.str l))) (PV.asStr (List.headD (List.drop (Int.toNat i * 1) (List.map PV.str (TblT.idxs b))) PV.nilp)))
theorem jjA (b : TblT) (l : List ByteArray) (u : List ChT) (i : Int) : jvL brC b l u i =
 brC (decide (i < (↑(List.length (TblT.idxs b)) : Int)))
 (brC (decide (0 ≤ i) && decide (i < (↑(List.length (TblT.idxs b)) : Int)))
 (brC (Nat.blt 0 (List.length (List.drop (Int.toNat i * 1) (List.map PV.str (TblT.idxs b)))) && PV.isStr (List.headD (List.drop (Int.toNat i * 1) (List.map PV.str (TblT.idxs b))) PV.nilp) && true)
 (brC (isTb (PV.agg [PV.str (TblT.name b), PV.str (TblT.glob b), PV.sl (List.length (TblT.cols b)) (List.map PV.str (TblT.cols b)), PV.sl (List.length (TblT.idxs b)) (List.map PV.str (TblT.idxs b))]) && isL (PV.sl (List.length l) (List.map PV.str l)) && okC (asTb (PV.agg [PV.str (TblT.name b), PV.str (TblT.glob b), PV.sl (List.length (TblT.cols b)) (List.map PV.str (TblT.cols b)), PV.sl (List.length (TblT.idxs b)) (List.map PV.str (TblT.idxs b))])) (asL (PV.sl (List.length l) (List.map PV.str l))) (PV.asStr (List.headD (List.drop (Int.toNat i * 1) (List.map PV.str (TblT.idxs b))) PV.nilp)))
 (brC (Nat.beq (List.length (encC (zzbd0 b l u i))) (List.length (zzbd0 b l u i) * 4) && (decide (List.length u + List.length (zzbd0 b l u i) ≤ 140737488351232) && decide ((List.length u + List.length (zzbd0 b l u i)) * 64 ≤ 140737488355328)))
 (some (.inl [(.ptr 16384 0, some (.box [.pv (.str (TblT.name b)), .pv (.str (TblT.glob b)), .pv (.sl (List.length (TblT.cols b)) (List.map PV.str (TblT.cols b))), .pv (.sl (List.length (TblT.idxs b)) (List.map PV.str (TblT.idxs b)))])), (.ptr 32768 0, some (.box [.pv (.sl (List.length l) (List.map PV.str l))])), (.own 40960, some (.lst 4 75 (List.length u + List.length (zzbd0 b l u i)) (encC u ++ encC (zzbd0 b l u i)) false)), (.pv (.int .i64 (IntKind.wrap .i64 (i + 1))), none)]))
 none)
 none)
 none)
 none)
 (some (.inr (.exit 0, [(.own 40960, some (.lst 4 75 (List.length u) (encC u) false))]))) := by kernel_rfl
def zzbe0 (kd : Int) (b : TblT) (l : List ByteArray) (cs : List ByteArray) (i : Int) (u : List ChT) := (chI kd (asTb (PV.agg [PV.str (TblT.name b), PV.str (TblT.glob b), PV.sl (List.length (TblT.cols b)) (List.map PV.str (TblT.cols b)), PV.sl (List.length (TblT.idxs b)) (List.map PV.str (TblT.idxs b))])) (asL (PV.sl (List.length l) (List.map PV.str l))) (PV.asStr (List.headD (List.drop (Int.toNat i * 1) (List.map PV.str cs)) PV.nilp)))
theorem jjs (kd : Int) (b : TblT) (l : List ByteArray) (cs : List ByteArray) (i : Int) (u : List ChT) : jv4 brC kd b l cs i u =
 brC (decide (i < (↑(List.length cs) : Int)))
 (brC (decide (0 ≤ i) && decide (i < (↑(List.length cs) : Int)))
 (brC (Nat.blt 0 (List.length (List.drop (Int.toNat i * 1) (List.map PV.str cs))) && PV.isStr (List.headD (List.drop (Int.toNat i * 1) (List.map PV.str cs)) PV.nilp) && true)
 (brC (isTb (PV.agg [PV.str (TblT.name b), PV.str (TblT.glob b), PV.sl (List.length (TblT.cols b)) (List.map PV.str (TblT.cols b)), PV.sl (List.length (TblT.idxs b)) (List.map PV.str (TblT.idxs b))]) && isL (PV.sl (List.length l) (List.map PV.str l)) && okC (asTb (PV.agg [PV.str (TblT.name b), PV.str (TblT.glob b), PV.sl (List.length (TblT.cols b)) (List.map PV.str (TblT.cols b)), PV.sl (List.length (TblT.idxs b)) (List.map PV.str (TblT.idxs b))])) (asL (PV.sl (List.length l) (List.map PV.str l))) (PV.asStr (List.headD (List.drop (Int.toNat i * 1) (List.map PV.str cs)) PV.nilp)))
 (brC (decide (List.length u + List.length (zzbe0 kd b l cs i u) ≤ 140737488351232) && decide ((List.length u + List.length (zzbe0 kd b l cs i u)) * 64 ≤ 140737488355328))
 (some (.inl [(.pv (.int .i64 kd), none), (.ptr 12288 0, some (.box [.pv (.str (TblT.name b)), .pv (.str (TblT.glob b)), .pv (.sl (List.length (TblT.cols b)) (List.map PV.str (TblT.cols b))), .pv (.sl (List.length (TblT.idxs b)) (List.map PV.str (TblT.idxs b)))])), (.ptr 20480 0, some (.box [.pv (.sl (List.length l) (List.map PV.str l))])), (.own 28672, some (.dls 4 75 (List.length u + List.length (zzbe0 kd b l cs i u)) (encC u ++ encC (zzbe0 kd b l cs i u)) true none)), (.pv (.sl (List.length cs) (List.map PV.str cs)), none), (.pv (.int .i64 (↑(List.length cs) : Int)), none), (.pv (.int .i64 (IntKind.wrap .i64 (i + 1))), none)]))
 none)
 none)
 none)
 none)
 (some (.inr (.exit 0, [(.own 28672, some (.dls 4 75 (List.length u) (encC u) true none))]))) := by kernel_rfl
def zzbf0 (kd : Int) (b : TblT) (l : List ByteArray) (cs : List ByteArray) (i : Int) := (chI kd (asTb (PV.agg [PV.str (TblT.name b), PV.str (TblT.glob b), PV.sl (List.length (TblT.cols b)) (List.map PV.str (TblT.cols b)), PV.sl (List.length (TblT.idxs b)) (List.map PV.str (TblT.idxs b))])) (asL (PV.sl (List.length l) (List.map PV.str l))) (PV.asStr (List.headD (List.drop (Int.toNat i * 1) (List.map PV.str cs)) PV.nilp)))
theorem jiz (kd : Int) (b : TblT) (l : List ByteArray) (cs : List ByteArray) (i : Int) : jvz brC kd b l cs i =
 brC (decide (i < (↑(List.length cs) : Int)))
 (brC (decide (0 ≤ i) && decide (i < (↑(List.length cs) : Int)))
 (brC (Nat.blt 0 (List.length (List.drop (Int.toNat i * 1) (List.map PV.str cs))) && PV.isStr (List.headD (List.drop (Int.toNat i * 1) (List.map PV.str cs)) PV.nilp) && true)
 (brC (isTb (PV.agg [PV.str (TblT.name b), PV.str (TblT.glob b), PV.sl (List.length (TblT.cols b)) (List.map PV.str (TblT.cols b)), PV.sl (List.length (TblT.idxs b)) (List.map PV.str (TblT.idxs b))]) && isL (PV.sl (List.length l) (List.map PV.str l)) && okC (asTb (PV.agg [PV.str (TblT.name b), PV.str (TblT.glob b), PV.sl (List.length (TblT.cols b)) (List.map PV.str (TblT.cols b)), PV.sl (List.length (TblT.idxs b)) (List.map PV.str (TblT.idxs b))])) (asL (PV.sl (List.length l) (List.map PV.str l))) (PV.asStr (List.headD (List.drop (Int.toNat i * 1) (List.map PV.str cs)) PV.nilp)))
 (brC (decide (0 + List.length (zzbf0 kd b l cs i) ≤ 140737488351232) && decide ((0 + List.length (zzbf0 kd b l cs i)) * 64 ≤ 140737488355328))
 (some (.inl [(.pv (.int .i64 kd), none), (.ptr 12288 0, some (.box [.pv (.str (TblT.name b)), .pv (.str (TblT.glob b)), .pv (.sl (List.length (TblT.cols b)) (List.map PV.str (TblT.cols b))), .pv (.sl (List.length (TblT.idxs b)) (List.map PV.str (TblT.idxs b)))])), (.ptr 20480 0, some (.box [.pv (.sl (List.length l) (List.map PV.str l))])), (.own 28672, some (.dls 4 75 (0 + List.length (zzbf0 kd b l cs i)) ([] ++ encC (zzbf0 kd b l cs i)) true none)), (.pv (.sl (List.length cs) (List.map PV.str cs)), none), (.pv (.int .i64 (↑(List.length cs) : Int)), none), (.pv (.int .i64 (IntKind.wrap .i64 (i + 1))), none)]))
 none)
 none)
 none)
 none)
 (some (.inr (.exit 0, [(.own 28672, some (.lst 4 75 0 [] true))]))) := by kernel_rfl
theorem jrF (b : TblT) (l : List ByteArray) (c : ByteArray) (kd : Int) : q_lix brC b l c kd =
 brC (isL (PV.sl (List.length (TblT.cols b)) (List.map PV.str (TblT.cols b))))
 (brC (decide (0 ≤ posS (asL (PV.sl (List.length (TblT.cols b)) (List.map PV.str (TblT.cols b)))) c) && decide (posS (asL (PV.sl (List.length (TblT.cols b)) (List.map PV.str (TblT.cols b)))) c < (↑(List.length l) : Int)))
 (brC (Nat.blt 0 (List.length (List.drop (Int.toNat (posS (asL (PV.sl (List.length (TblT.cols b)) (List.map PV.str (TblT.cols b)))) c) * 1) (List.map PV.str l))) && PV.isStr (List.headD (List.drop (Int.toNat (posS (asL (PV.sl (List.length (TblT.cols b)) (List.map PV.str (TblT.cols b)))) c) * 1) (List.map PV.str l)) PV.nilp) && true)
 (brC (ByteArray.toList (PV.asStr (List.headD (List.drop (Int.toNat (posS (asL (PV.sl (List.length (TblT.cols b)) (List.map PV.str (TblT.cols b)))) c) * 1) (List.map PV.str l)) PV.nilp)) == [])
 (some ((.cv (.lst 4 75 0 [] false), [])))
 (brC (decide (0 ≤ 0) && decide (0 < (↑(List.length l) : Int)))
 (brC (Nat.blt 0 (List.length (List.drop 0 (List.map PV.str l))) && PV.isStr (List.headD (List.drop 0 (List.map PV.str l)) PV.nilp) && true)
 (some ((.cv (.lst 4 75 1 [PV.int .i64 kd, PV.str (TblT.glob b), PV.sl 4 [PV.str { data := #[105] }, PV.str c, PV.str (PV.asStr (List.headD (List.drop (Int.toNat (posS (asL (PV.sl (List.length (TblT.cols b)) (List.map PV.str (TblT.cols b)))) c) * 1) (List.map PV.str l)) PV.nilp)), PV.str (PV.asStr (List.headD (List.drop 0 (List.map PV.str l)) PV.nilp))], PV.str { data := #[] }] false), [])))
 none)
 none))
 none)
 none)
 none := by kernel_rfl
theorem jmF (b : TblT) (l : List ByteArray) : jtR brC b l =
 brC (decide (0 ≤ 0) && decide (0 < (↑(List.length l) : Int)))
 (brC (Nat.blt 0 (List.length (List.drop 0 (List.map PV.str l))) && PV.isStr (List.headD (List.drop 0 (List.map PV.str l)) PV.nilp) && true)
 (some ((.agg [.pv (.int .i64 (Int.ofNat 2)), .pv (.str (TblT.glob b)), .lst 1 9 2 [PV.str { data := #[114] }, PV.str (PV.asStr (List.headD (List.drop 0 (List.map PV.str l)) PV.nilp))] true, .pv (.str { data := #[] })], [])))
 none)
 none := by kernel_rfl
def zzbh0 (t : List NodeT) (b : TblT) (k : ByteArray) := (PV.agg [PV.str (TblT.name b), PV.str (TblT.glob b), PV.sl (List.length (TblT.cols b)) (List.map PV.str (TblT.cols b)), PV.sl (List.length (TblT.idxs b)) (List.map PV.str (TblT.idxs b))])
def zzbh1 (t : List NodeT) (b : TblT) (k : ByteArray) := (PV.agg [PV.str (TblT.name b), PV.str (TblT.glob b), pL (TblT.cols b), pL (TblT.idxs b)])
def zzbh2 (t : List NodeT) (b : TblT) (k : ByteArray) := (rowOf (keepR (asT (PV.agg [PV.sl (List.length t) (encN t)])) (asTb (zzbh0 t b k))) (asTb (zzbh0 t b k)) k)
def zzbh3 (t : List NodeT) (b : TblT) (k : ByteArray) := (PV.sl 1 [PV.int .i64 2, PV.str (TblT.glob b), PV.sl 2 [PV.str { data := #[114] }, PV.str k], PV.str { data := #[] }])
theorem jiY (t : List NodeT) (b : TblT) (k : ByteArray) : jvd brC t b k =
 brC (isT (PV.agg [PV.sl (List.length t) (encN t)]))
 (brC (!treeB (asT (PV.agg [PV.sl (List.length t) (encN t)])))
 (some ((.tup [.cv (.lst 4 75 0 [] false), .cv (.pv (.int .i64 (Int.ofNat 1)))], [])))
 (brC (isTb (zzbh0 t b k))
 (brC (!tblB (asTb (zzbh0 t b k)))
 (some ((.tup [.cv (.lst 4 75 0 [] false), .cv (.pv (.int .i64 (Int.ofNat 1)))], [])))
 (brC (isT (PV.agg [PV.sl (List.length t) (encN t)]) && isTb (zzbh0 t b k) && treeB (asT (PV.agg [PV.sl (List.length t) (encN t)])) && tblB (asTb (zzbh0 t b k)) && Prod.fst (zzbh2 t b k) == 0)
 (brC (isTb (zzbh1 t b k) && isL (pL (Prod.snd (zzbh2 t b k))) && isCs (zzbh3 t b k) && Nat.beq 16384 16384 && Nat.beq 32768 32768 && Nat.beq 40960 40960 && Nat.beq 75 75 && 0 == 0 && List.all (TblT.idxs (asTb (zzbh1 t b k))) (okC (asTb (zzbh1 t b k)) (asL (pL (Prod.snd (zzbh2 t b k))))) && decide (1 ≤ 1))
 (some ((.tup [.cv (.lst 4 75 (List.length (asCs (zzbh3 t b k) ++ chIs 2 (asTb (zzbh1 t b k)) (asL (pL (Prod.snd (zzbh2 t b k)))) (TblT.idxs (asTb (zzbh1 t b k))))) (encC (asCs (zzbh3 t b k) ++ chIs 2 (asTb (zzbh1 t b k)) (asL (pL (Prod.snd (zzbh2 t b k)))) (TblT.idxs (asTb (zzbh1 t b k))))) false), .cv (.pv (.int .i64 (Int.ofNat 0)))], [])))
 none)
 (brC (isT (PV.agg [PV.sl (List.length t) (encN t)]) && isTb (zzbh0 t b k) && treeB (asT (PV.agg [PV.sl (List.length t) (encN t)])) && tblB (asTb (zzbh0 t b k)))
 (brC (Prod.fst (zzbh2 t b k) != 0)
 (some ((.tup [.cv (.lst 4 75 0 [] false), .cv (.pv (.int .i64 (Prod.fst (zzbh2 t b k))))], [])))
 (brC (isTb (zzbh1 t b k) && isL PV.nils && isCs (zzbh3 t b k) && Nat.beq 16384 16384 && Nat.beq 32768 32768 && Nat.beq 40960 40960 && Nat.beq 75 75 && 0 == 0 && List.all (TblT.idxs (asTb (zzbh1 t b k))) (okC (asTb (zzbh1 t b k)) (asL PV.nils)) && decide (1 ≤ 1))
 (some ((.tup [.cv (.lst 4 75 (List.length (asCs (zzbh3 t b k) ++ chIs 2 (asTb (zzbh1 t b k)) (asL PV.nils) (TblT.idxs (asTb (zzbh1 t b k))))) (encC (asCs (zzbh3 t b k) ++ chIs 2 (asTb (zzbh1 t b k)) (asL PV.nils) (TblT.idxs (asTb (zzbh1 t b k))))) false), .cv (.pv (.int .i64 (Int.ofNat 0)))], [])))
 none))
 none)))
 none))
 none := by kernel_rfl
end
section
open Go.RowKit
theorem jhS {P : Program} {g : FuncId} {ivs : List IV} {bxs : List (List CV)} {k : Nat} {e : TypeId} (h : jav P g ivs (.cv (.pv .nils)) bxs) : jav P g ivs (.cv (.dls k e 0 [])) bxs := by
 intro w com vals bs h1 h2 h3 h4
 refine Calls.mono (h w com vals bs h1 h2 h3 h4) ?_
 rintro en w' ⟨v, com', rbs, bbs, e1, e2, e3, e4, e5, e6, e7, e8, e9⟩
 cases e6 with
 | one _ _ _ e6 =>
  cases e6 with
  | cv _ _ _ e6 =>
   cases e6 with
   | pv _ e6 =>
    cases e6
    exact ⟨_, com', [], bbs, e1, e2, e3, e4, e5, .one _ _ _ (.cv _ _ _ (.dls _ k e 0 [] [] [] [] ⟨rowQ.nil _ _ _, (fun _ h => nomatch h), (fun _ h => by simp [Value.ownBlock] at h), .nil _ _ _, (by simp [Value.ownBlock]), (by simp [Value.ownBlock])⟩)), e7, e8, e9⟩
theorem jhU {P : Program} {g : FuncId} {ivs : List IV} {bxs : List (List CV)} {k : Nat} {e : TypeId} (h : jav P g ivs (.cv (.lst k e 0 [] true)) bxs) : jav P g ivs (.cv (.dls k e 0 [])) bxs := by
 intro w com vals bs h1 h2 h3 h4
 refine Calls.mono (h w com vals bs h1 h2 h3 h4) ?_
 rintro en w' ⟨v, com', rbs, bbs, e1, e2, e3, e4, e5, e6, e7, e8, e9⟩
 cases e6 with
 | one _ _ _ e6 =>
  cases e6 with
  | cv _ _ _ e6 =>
   cases e6 with
   | lst _ _ _ _ _ xs e6 =>
    have hxs : xs = [] := List.length_eq_zero_iff.1 (by rw [e6.reps.1]; rfl)
    subst hxs
    exact ⟨v, com', _, bbs, e1, e2, e3, e4, e5, .one _ _ _ (.cv _ _ _ (.dls _ k e 0 [] _ [] [] ⟨e6.own, e6.one, fun b hb => e6.com b hb, .nil _ _ _, by cases v.ownBlock <;> simp, by rw [List.append_nil]⟩)), e7, e8, e9⟩
theorem jvM : jab Tryz.prog 100 E_place := ⟨jfx.1, fun ivs res bxs h => jfx.2 ivs res bxs (by
 unfold E_place at h
 split at h
 ·exact h
 ·cases h)⟩
theorem jkc {b : TblT} {l : List ByteArray} {c : ByteArray} (h : okC b l c = true) : ∃ n : Nat, posS b.cols c = (n : Int) ∧ n < l.length ∧ cellX b l c = l.getD n ⟨#[]⟩ := by
 obtain ⟨h1, h2⟩ := andE h
 have h1 := nqI h1
 have h2 := nqI h2
 obtain ⟨n, hn⟩ := Int.eq_ofNat_of_zero_le h1
 rw [hn] at h2
 exact ⟨n, hn, by omega, by unfold cellX; rw [hn, nqF]⟩
theorem jqy : jad Tryz.prog sgb0 := ⟨jvM, trivial⟩
theorem jtA : jab Tryz.prog 65 E_cell := jac mix jqy (lp := []) (LO := LO0) ⟨Tryz.func65, by kernel_rfl, by kernel_rfl⟩ (by kernel_rfl) fun ivs res bxs h => by
 unfold E_cell at h
 split at h
 ·rename_i p q c
  obtain ⟨hc, he⟩ := pick1 h
  cases he
  obtain ⟨hc, g2⟩ := andE hc
  obtain ⟨g0, g1⟩ := andE hc
  obtain ⟨b, rfl, h_b⟩ := jat g0
  obtain ⟨l, rfl, h_l⟩ := jae g1
  have e_b : asTb (pTb b) = b := jal b
  have e_l : asL (pL l) = l := jag l
  rw [e_b, e_l] at g2 ⊢
  refine ⟨jap (by kernel_rfl), ?_⟩
  obtain ⟨n, hz, hn, hx⟩ := jkc g2
  have tree := jo3 b l c
  have iC := jaj h_b.2.2.1
  have aC := jag b.cols
  simp (disch := omega) only [isL, asL, iC, aC, hz, dT, nqF, jao l n hn, nqH, List.headD_cons, PV.isStr, PV.asStr, blt0, Bool.and_true, Bool.true_and] at tree
  rw [hx, List.getD_eq_getElem?_getD, List.getElem?_eq_getElem hn]
  exact tree.trans rfl
 ·cases h
theorem jqg : jad Tryz.prog sgb1 := ⟨jtA, jqy⟩
theorem jqL {b : TblT} {l : List ByteArray} {c : ByteArray} (h : okC b l c = true) : ∃ x t, l = x :: t := by
 obtain ⟨n, _, hn, _⟩ := jkc h
 cases l with
 | nil => exact absurd hn (Nat.not_lt_zero _)
 | cons x t => exact ⟨x, t, rfl⟩
theorem jfP : jab Tryz.prog 67 E_inode0 := jac mix jqg (lp := jlV) (LO := LO0) ⟨Tryz.func67, by kernel_rfl, by kernel_rfl⟩ (by kernel_rfl) fun ivs res bxs h => by
 unfold E_inode0 at h
 split at h
 ·rename_i p k q c
  refine ⟨jap (by kernel_rfl), ?_⟩
  have key : ∀ b l, shTb b → shL l → okC b l c = true → jpf brC b k l c = some (bif ((cellX b l c).toList == []) then .cv (.pv .nils) else .cv (.dls 4 75 1 (encC (chI k b l c))), []) := fun b l hb hl ho => by
   have tree := jm4 b k l c
   revert tree; try delta zzba0; intro tree
   have i1 := jaX hb
   have a1 := jal b
   have i2 := jaj hl
   have a2 := jag l
   simp only [isTb, asTb, isL, asL, i1, a1, i2, a2, ho, Bool.and_true, Bool.true_and] at tree
   unfold chI
   cases he : ((cellX b l c).toList == []) with
   | true => rw [he] at tree; exact tree.trans rfl
   | false =>
    rw [he] at tree
    obtain ⟨x, t, rfl⟩ := jqL ho
    rw [dT (show (0 : Int) < ((x :: t).length : Int) by rw [nqH]; omega)] at tree
    exact tree.trans rfl
  rcases pick2 h with ⟨hc, he⟩ | ⟨hn, hc, he⟩
  ·cases he
   obtain ⟨hc, g3⟩ := andE hc
   obtain ⟨hc, g2⟩ := andE hc
   obtain ⟨g0, g1⟩ := andE hc
   obtain ⟨b, rfl, h_b⟩ := jat g0
   obtain ⟨l, rfl, h_l⟩ := jae g1
   have e_b : asTb (pTb b) = b := jal b
   have e_l : asL (pL l) = l := jag l
   rw [e_b, e_l] at g2 g3
   refine (key b l h_b h_l g2).trans ?_
   rw [g3]
   rfl
  ·cases he
   rw [hc, Bool.true_and] at hn
   obtain ⟨hc, g2⟩ := andE hc
   obtain ⟨g0, g1⟩ := andE hc
   obtain ⟨b, rfl, h_b⟩ := jat g0
   obtain ⟨l, rfl, h_l⟩ := jae g1
   have e_b : asTb (pTb b) = b := jal b
   have e_l : asL (pL l) = l := jag l
   rw [e_b, e_l] at g2 hn ⊢
   refine (key b l h_b h_l g2).trans ?_
   rw [hn]
   rfl
 ·cases h
theorem jsn : jab Tryz.prog 67 E_inode := ⟨jfP.1, fun ivs res bxs h => by
 unfold E_inode at h
 split at h
 ·rename_i p k q c
  obtain ⟨hc, he⟩ := pick1 h
  cases he
  cases hx : ((cellX (asTb p) (asL q) c).toList == []) with
  | true =>
   have e : chI k (asTb p) (asL q) c = [] := by unfold chI; rw [hx]; rfl
   rw [e]
   exact jhS (jfP.2 _ _ _ (by unfold E_inode0; dsimp only; rw [hc, hx]; rfl))
  | false =>
   have e : (chI k (asTb p) (asL q) c).length = 1 := by unfold chI; rw [hx]; rfl
   rw [e]
   exact jfP.2 _ _ _ (by unfold E_inode0; dsimp only; rw [hc, hx]; rfl)
 ·cases h⟩
theorem jhO (k : Int) (b : TblT) (l : List ByteArray) (c : ByteArray) : (chI k b l c).length ≤ 1 := by
 unfold chI
 cases ((cellX b l c).toList == [])
 ·exact Nat.le_refl _
 ·exact Nat.zero_le _
theorem jhg (k : Int) (b : TblT) (l : List ByteArray) : ∀ cs : List ByteArray, (chIs k b l cs).length ≤ cs.length
 | [] => Nat.le_refl _
 | c :: cs => by
  have h1 := jhO k b l c
  have h2 := jhg k b l cs
  show (chI k b l c ++ chIs k b l cs).length ≤ _
  rw [nqG, nqH]
  omega
theorem jt6 : jad Tryz.prog sgb2 := ⟨jsn, jqg⟩
theorem jnO (kd : Int) (b : TblT) (l cs : List ByteArray) (hb : shTb b) (hl : shL l) (hcs : shL cs) (ho : cs.all (okC b l) = true) : ∀ (m i : Nat) (u : List ChT), m + i = cs.length → u.length ≤ i →
  LoopsTo (rdB brC Tryz.prog sgb2 jgp jgi Tryz.f81 3 []) [aI kd, bxTb 3 b, bxRw 5 l, aCd 7 u.length (encC u), aP (pL cs), aI cs.length, aI i] (.exit 0, [aCd 7 (u ++ chIs kd b l (cs.drop i)).length (encC (u ++ chIs kd b l (cs.drop i)))]) := by
 have hlen := hcs.1
 intro m
 induction m with
 | zero =>
  intro i u hm hu
  rw [List.drop_eq_nil_of_le (show cs.length ≤ i by omega), show chIs kd b l [] = [] from rfl, List.append_nil]
  refine .done _ _ ((jjs kd b l cs i u).trans ?_)
  try delta zzbe0
  rw [dF (by omega)]
  rfl
 | succ m ih =>
  intro i u hm hu
  have hi : i < cs.length := by omega
  have tree := jjs kd b l cs i u
  revert tree; try delta zzbe0; intro tree
  have hc := List.all_eq_true.1 ho _ (List.getElem_mem hi)
  have i1 := jaX hb
  have a1 := jal b
  have i2 := jaj hl
  have a2 := jag l
  have hk := jhO kd b l cs[i]
  have hq : (u ++ chI kd b l cs[i]).length ≤ 1048577 := by rw [nqG]; omega
  simp (disch := omega) only [isTb, asTb, isL, asL, i1, a1, i2, a2, dT, nqF, jao cs i hi, nqH, List.headD_cons, PV.isStr, PV.asStr, blt0, hc, wrap1, ← jgZ, ← nqG, Bool.and_true, Bool.true_and] at tree
  have := ih (i + 1) (u ++ chI kd b l cs[i]) (by omega) (by rw [nqG]; omega)
  rw [nqK hi, show chIs kd b l (cs[i] :: cs.drop (i + 1)) = chI kd b l cs[i] ++ chIs kd b l (cs.drop (i + 1)) from rfl, ← List.append_assoc]
  exact .step _ _ _ tree this
theorem jqe : ∀ b ∈ jas (jaW Tryz.f81), ja0 Tryz.prog (tabL sgb2) (OL jgp) Tryz.f81.ntmps (pbOf []) jgi b := by
 refine jar 3 (by kernel_rfl) (by kernel_rfl) (by kernel_rfl) ?_
 intro ls e ls' hl
 replace hl : pickA (jg8 ls) = some (e, ls') := hl
 unfold jg8 at hl
 split at hl
 ·rename_i kd x s g q r y v z e p n i
  rcases pick2 hl with ⟨hc, he⟩ | ⟨hn, hc, he⟩
  ·cases he
   obtain ⟨hc, g9⟩ := andE hc
   obtain ⟨hc, g8⟩ := andE hc
   obtain ⟨hc, g7⟩ := andE hc
   obtain ⟨hc, g6⟩ := andE hc
   obtain ⟨hc, g5⟩ := andE hc
   obtain ⟨hc, g4⟩ := andE hc
   obtain ⟨hc, g3⟩ := andE hc
   obtain ⟨hc, g2⟩ := andE hc
   obtain ⟨g0, g1⟩ := andE hc
   obtain ⟨b, rfl, rfl, rfl, rfl, hb⟩ := jbL g0
   obtain ⟨l, rfl, h_l⟩ := jae g1
   obtain ⟨cs, rfl, h_cs⟩ := jae g2
   have e_cs : asL (pL cs) = cs := jag cs
   rw [e_cs] at g7 g9
   obtain rfl := nqB g3
   obtain rfl := nqB g4
   obtain rfl := nqB g5
   obtain rfl := nqB g6
   obtain rfl := eq_of_beq g7
   obtain rfl := eq_of_beq g8
   have hz : cs.length = 0 := nqB g9
   refine .done _ _ ((jiz kd b l cs 0).trans ?_)
   try delta zzbf0
   rw [dF (by omega)]
   rfl
  ·cases he
   obtain ⟨hc, g9⟩ := andE hc
   rw [hc, Bool.true_and] at hn
   obtain ⟨hc, g8⟩ := andE hc
   obtain ⟨hc, g7⟩ := andE hc
   obtain ⟨hc, g6⟩ := andE hc
   obtain ⟨hc, g5⟩ := andE hc
   obtain ⟨hc, g4⟩ := andE hc
   obtain ⟨hc, g3⟩ := andE hc
   obtain ⟨hc, g2⟩ := andE hc
   obtain ⟨g0, g1⟩ := andE hc
   obtain ⟨b, rfl, rfl, rfl, rfl, hb⟩ := jbL g0
   obtain ⟨l, rfl, h_l⟩ := jae g1
   obtain ⟨cs, rfl, h_cs⟩ := jae g2
   have e_b : asTb (PV.agg [PV.str b.name, PV.str b.glob, pL b.cols, pL b.idxs]) = b := tbA b
   have e_cs : asL (pL cs) = cs := jag cs
   have e_l : asL (pL l) = l := jag l
   rw [e_cs] at g7 hn
   rw [e_cs, e_b, e_l] at g9 ⊢
   obtain rfl := nqB g3
   obtain rfl := nqB g4
   obtain rfl := nqB g5
   obtain rfl := nqB g6
   obtain rfl := eq_of_beq g7
   obtain rfl := eq_of_beq g8
   match cs, h_cs, g9, hn with
   | [], _, _, hn => cases hn
   | c :: ct, h_cs, g9, hn =>
    have tree := jiz kd b l (c :: ct) 0
    revert tree; try delta zzbf0; intro tree
    have hlen := h_cs.1
    rw [nqH] at hlen
    have hc := List.all_eq_true.1 g9 c (List.mem_cons_self ..)
    have i1 := jaX hb
    have a1 := jal b
    have i2 := jaj h_l
    have a2 := jag l
    have hk := jhO kd b l c
    have d0 := jao (c :: ct) 0 (by rw [nqH]; omega)
    have w0 : IntKind.wrap .i64 (0 + 1) = 1 := rfl
    simp (disch := omega) only [isTb, asTb, isL, asL, i1, a1, i2, a2, dT, d0, Nat.zero_add, List.nil_append, show Int.toNat 0 = 0 from rfl, List.getElem_cons_zero, nqH, List.headD_cons, PV.isStr, PV.asStr, blt0, hc, w0, Bool.and_true, Bool.true_and] at tree
    have := jnO kd b l (c :: ct) hb h_l h_cs g9 ct.length 1 (chI kd b l c) (by rw [nqH]) hk
    exact .step _ _ _ tree this
 ·cases hl
theorem jj6 : jab Tryz.prog 81 E_ins0 := jac mix jt6 (lp := jgp) (LO := jgi) ⟨Tryz.func81, by kernel_rfl, by kernel_rfl⟩ (by kernel_rfl) fun ivs res bxs h => by
 unfold E_ins0 at h
 split at h
 ·rename_i p k q
  refine ⟨jqe, ?_⟩
  have key : ∀ b l, shTb b → shL l → (Nat.beq b.idxs.length 0 = true ∨ b.idxs.all (okC b l) = true) → q_ins brC b k l = some (bif Nat.beq b.idxs.length 0 then .cv (.lst 4 75 0 [] true) else .cv (.dls 4 75 (chIs k b l b.idxs).length (encC (chIs k b l b.idxs))), []) := fun b l hb hl ho => by
   have tree := jr5 b k l
   have i1 := tbI hb
   have a1 := tbA b
   have i2 : isE pL shL (pL l) = true := jaj hl
   have a2 : asE pL (pL l) = l := jag l
   have i3 : isE pL shL (pL b.idxs) = true := jaj hb.2.2.2
   have a3 : asE pL (pL b.idxs) = b.idxs := jag b.idxs
   simp only [isTb, asTb] at i1 a1
   simp only [isTb, asTb, isL, asL, i1, a1, i2, a2, i3, a3, Nat.beq_refl, beq_self_eq_true, Bool.and_true, Bool.true_and] at tree
   cases hz : Nat.beq b.idxs.length 0 with
   | true => rw [hz] at tree; exact tree.trans rfl
   | false =>
    rcases ho with h | h
    ·rw [hz] at h; cases h
    ·rw [hz, h] at tree
     exact tree.trans rfl
  rcases pick2 h with ⟨hc, he⟩ | ⟨hn, hc, he⟩
  ·cases he
   obtain ⟨hc, g2⟩ := andE hc
   obtain ⟨g0, g1⟩ := andE hc
   obtain ⟨b, rfl, h_b⟩ := jat g0
   obtain ⟨l, rfl, h_l⟩ := jae g1
   have e_b : asTb (pTb b) = b := jal b
   rw [e_b] at g2
   refine (key b l h_b h_l (.inl g2)).trans ?_
   rw [g2]
   rfl
  ·cases he
   obtain ⟨hc, g2⟩ := andE hc
   rw [hc, Bool.true_and] at hn
   obtain ⟨g0, g1⟩ := andE hc
   obtain ⟨b, rfl, h_b⟩ := jat g0
   obtain ⟨l, rfl, h_l⟩ := jae g1
   have e_b : asTb (pTb b) = b := jal b
   have e_l : asL (pL l) = l := jag l
   rw [e_b, e_l] at g2
   rw [e_b] at hn
   rw [e_b, e_l]
   refine (key b l h_b h_l (.inr g2)).trans ?_
   rw [hn]
   rfl
 ·cases h
theorem jwe : jab Tryz.prog 81 E_ins := ⟨jj6.1, fun ivs res bxs h => by
 unfold E_ins at h
 split at h
 ·rename_i p k q
  obtain ⟨hc, he⟩ := pick1 h
  cases he
  cases hx : Nat.beq (asTb p).idxs.length 0 with
  | true =>
   obtain ⟨hc, _⟩ := andE hc
   have e : (asTb p).idxs = [] := List.length_eq_zero_iff.1 (nqB hx)
   rw [e]
   exact jhU (jj6.2 _ _ _ (by unfold E_ins0; dsimp only; rw [hc, hx]; rfl))
  | false => exact jj6.2 _ _ _ (by unfold E_ins0; dsimp only; rw [hc, hx, Bool.and_false]; rfl)
 ·cases h⟩
theorem jsw : jab Tryz.prog 64 E_rnode := jac mix (tab := []) trivial (lp := [(1000000, [15], [22])]) (LO := LO0) ⟨Tryz.func64, by kernel_rfl, by kernel_rfl⟩ (by kernel_rfl) fun ivs res bxs h => by
 unfold E_rnode at h
 split at h
 ·rename_i p k q
  obtain ⟨hc, he⟩ := pick1 h
  cases he
  obtain ⟨hc, g3⟩ := andE hc
  obtain ⟨hc, g2⟩ := andE hc
  obtain ⟨g0, g1⟩ := andE hc
  obtain ⟨b, rfl, h_b⟩ := jat g0
  obtain ⟨l, rfl, h_l⟩ := jae g1
  have e_b : asTb (pTb b) = b := jal b
  have e_l : asL (pL l) = l := jag l
  rw [e_l] at g3
  rw [e_b, e_l, jpN]
  obtain rfl := eq_of_beq g2
  refine ⟨jap (by kernel_rfl), (jmF b l).trans ?_⟩
  match l, g3 with
  | x :: t, g3 =>
   rw [dT (show (0 : Int) < ((x :: t).length : Int) by rw [nqH]; omega)]
   rfl
 ·cases h
theorem jwr : jab Tryz.prog 30 E_irA := ⟨jeX.1, fun ivs res bxs h => jeX.2 ivs res bxs (by
 unfold E_irA at h
 split at h
 ·obtain ⟨hc, he⟩ := pick1 h
  cases he
  unfold E_RowAt
  dsimp only
  rw [hc]
  rfl
 ·cases h)⟩
theorem jvq : jab Tryz.prog 30 E_rB := ⟨jeX.1, fun ivs res bxs h => jeX.2 ivs res bxs (by
 unfold E_rB at h
 split at h
 ·rename_i p q k
  obtain ⟨hc, he⟩ := pick1 h
  cases he
  obtain ⟨h1, h2⟩ := andE hc
  unfold E_RowAt
  dsimp only
  rw [h1, show ((rowX (asT p) (asTb q) k).1 == 0) = false by cases e : ((rowX (asT p) (asTb q) k).1 == 0) <;> rw [e] at h2 <;> first | rfl | cases h2]
  rfl
 ·cases h)⟩
theorem jtH : jad Tryz.prog sgb3 := ⟨jwr, jsw, jwe, trivial⟩
theorem juY : jad Tryz.prog sgb4 := ⟨jvq, trivial⟩
theorem jh4 : shL [] := ⟨Nat.zero_le _, fun _ h => by cases h⟩
theorem jrj (b : TblT) {k v : ByteArray} (hk : k.size ≤ 50000) (hv : v.size ≤ 50000) : shL (jaY b k v) := by
 rw [jbt]
 have hsh := jn0 hv
 split
 ·refine ⟨?_, fun u hu => ?_⟩
  ·have h4 := (jdD (datas (cutV v))).1
   rw [(jb5 v).1, List.length_map] at h4
   have hq : v.data.toList.length = v.size := by rw [Array.length_toList]; rfl
   rw [nqH]
   omega
  ·rcases List.mem_cons.1 hu with rfl | hu
   ·omega
   ·exact hsh.2 u hu
 ·exact ⟨by simp, fun u hu => by rw [List.mem_singleton.1 hu]; omega⟩
theorem jj0 (t : List NodeT) (b : TblT) (k : ByteArray) : shL (rowX t b k).2 := by
 unfold rowX
 cases hT : treeB t with
 | false => exact jh4
 | true =>
  cases hB : tblB b with
  | false => exact jh4
  | true =>
   rw [Bool.true_and, cond_true]
   obtain ⟨c1, c2⟩ := jkB (keepR t b) b k
   by_cases hlt : atV (keepR t b) k < (keepR t b).length
   ·obtain ⟨x, hx, hr⟩ := c1 hlt
    rw [hr]
    have hxe : (keepR t b)[atV (keepR t b) k] = x := by rw [List.getElem?_eq_getElem hlt] at hx; injection hx
    obtain ⟨a, c, hs, hc, hv⟩ := jg5 (je7 hT b) hlt
    have hkk : k.size ≤ 50000 := by
     have hq := (jh2 (keepR t b) k).1
     rw [hx] at hq
     have := List.find?_some hq
     unfold isK at this
     rw [← hxe, hs] at this
     have e : c = k := ByteArray.ext (Array.ext' (by rw [← ByteArray.toList_eq, ← ByteArray.toList_eq]; exact eq_of_beq this))
     rw [← e]; omega
    rw [hxe] at hv
    cases hu : unpB b k x.value with
    | false => exact jh4
    | true => exact jrj b hkk (by omega)
   ·rw [c2 hlt]
    exact jh4
theorem jj3 {t : List NodeT} {b : TblT} {k : ByteArray} (h : (rowX t b k).1 = 0) : treeB t = true ∧ tblB b = true ∧ rowOf (keepR t b) b k = rowX t b k ∧ (rowX t b k).2.length = b.cols.length ∧ (rowX t b k).2.headD ⟨#[]⟩ = k ∧ 1 ≤ (rowX t b k).2.length := by
 unfold rowX at h ⊢
 cases hT : treeB t with
 | false => rw [hT] at h; cases h
 | true =>
  cases hB : tblB b with
  | false => rw [hT, hB] at h; cases h
  | true =>
   rw [hT, hB, Bool.true_and, cond_true] at h
   rw [Bool.true_and, cond_true]
   obtain ⟨c1, c2⟩ := jkB (keepR t b) b k
   by_cases hlt : atV (keepR t b) k < (keepR t b).length
   ·obtain ⟨x, hx, hr⟩ := c1 hlt
    rw [hr] at h ⊢
    cases hu : unpB b k x.value with
    | false => rw [hu] at h; cases h
    | true =>
     rw [cond_true]
     have hR : rowB b (jaY b k x.value) = true := by unfold unpB at hu; exact (andE hu).1
     unfold rowB at hR
     obtain ⟨hR, _⟩ := andE hR
     obtain ⟨hR, _⟩ := andE hR
     refine ⟨rfl, rfl, rfl, nqI hR, ?_, ?_⟩
     ·rw [jbt]; rfl
     ·rw [jbt, nqH]; omega
   ·rw [c2 hlt] at h
    cases h
theorem jok (cols : List ByteArray) : ∀ (is : List ByteArray) (a : Int), 0 ≤ a → idxB cols is a = true → ∀ c ∈ is, 0 ≤ posS cols c
 | [], _, _, _, _, h => by cases h
 | x :: r, a, ha, h, c, hc => by
  unfold idxB at h
  rw [nqE, decide_eq_true_eq] at h
  rcases List.mem_cons.1 hc with rfl | hc
  ·omega
  ·exact jok cols r _ (by omega) h.2 c hc
theorem jn4 {b : TblT} {l : List ByteArray} (h : tblB b = true) (hl : l.length = b.cols.length) : b.idxs.all (okC b l) = true := by
 unfold tblB at h
 have hi := (andE h).2
 refine List.all_eq_true.2 fun c hc => ?_
 have h1 := jok b.cols b.idxs 0 (by omega) hi c hc
 have h2 := (jnL b.cols c).1
 unfold okC
 rw [dT h1, dT (show posS b.cols c < (l.length : Int) by omega)]
 rfl
theorem jub : jab Tryz.prog 40 E_DelA := jac mix jtH (lp := [(1000002, [23], []), (2000020, [8, 0, 21], [])]) (LO := LO0) ⟨Tryz.func40, by kernel_rfl, by kernel_rfl⟩ (by kernel_rfl) fun ivs res bxs h => by
 unfold E_DelA at h
 split at h
 ·rename_i p q k
  obtain ⟨hc, he⟩ := pick1 h
  cases he
  obtain ⟨hc, g2⟩ := andE hc
  obtain ⟨g0, g1⟩ := andE hc
  obtain ⟨t, rfl, h_t⟩ := jae g0
  obtain ⟨b, rfl, h_b⟩ := jat g1
  have e_t : asT (pT t) = t := ja2 t
  have e_b : asTb (pTb b) = b := jal b
  rw [e_t, e_b] at g2 ⊢
  refine ⟨jap (by kernel_rfl), ?_⟩
  obtain ⟨_, hB, _, hlen, hhd, hpos⟩ := jj3 (eq_of_beq g2)
  have tree := jpx t b k
  revert tree; try delta zzbc1; intro tree
  revert tree; try delta zzbc0; intro tree
  have hX := jj0 t b k
  have ho := jn4 hB hlen
  have i1 := jaX h_b
  have a1 := jal b
  have i2 := jem h_t
  have a2 := ja2 t
  have hcs := jhg 2 b (rowX t b k).2 b.idxs
  have hil := h_b.2.2.2.1
  rw [jkr]
  generalize hl : (rowX t b k).2 = l at *
  have i3 := jaj hX
  have a3 := jag l
  simp (disch := omega) only [isT, asT, isTb, asTb, isL, asL, i1, a1, i2, a2, g2, hl, i3, a3, ho, dT, hpos, jpN, hhd, beq_self_eq_true, Bool.and_true, Bool.true_and] at tree
  rw [show ((⟨2, b.glob, [⟨#[114]⟩, k], ⟨#[]⟩⟩ : ChT) :: chIs 2 b l b.idxs).length = 1 + (chIs 2 b l b.idxs).length by rw [nqH]; omega]
  exact tree.trans rfl
 ·cases h
theorem jt3 : jab Tryz.prog 40 E_DelB := jac mix juY (lp := [(1000002, [23], []), (2000020, [8, 0, 21], [])]) (LO := LO0) ⟨Tryz.func40, by kernel_rfl, by kernel_rfl⟩ (by kernel_rfl) fun ivs res bxs h => by
 unfold E_DelB at h
 split at h
 ·rename_i p q k
  obtain ⟨hc, he⟩ := pick1 h
  cases he
  obtain ⟨hc, g2⟩ := andE hc
  obtain ⟨g0, g1⟩ := andE hc
  obtain ⟨t, rfl, h_t⟩ := jae g0
  obtain ⟨b, rfl, h_b⟩ := jat g1
  have e_t : asT (pT t) = t := ja2 t
  have e_b : asTb (pTb b) = b := jal b
  rw [e_t, e_b] at g2 ⊢
  refine ⟨jap (by kernel_rfl), ?_⟩
  have tree := jox t b k
  have i1 := jaX h_b
  have a1 := jal b
  have i2 := jem h_t
  have a2 := ja2 t
  have g3 : ((rowX t b k).1 != 0) = true := g2
  simp only [isT, asT, isTb, asTb, i1, a1, i2, a2, g2, g3, Bool.and_true, Bool.true_and] at tree
  exact tree.trans rfl
 ·cases h
theorem jui : jad Tryz.prog sgs0 := ⟨jlj, trivial⟩
theorem jvb : jab Tryz.prog 49 E_lix := jcI mix jui (lp := []) (LO := LO0) ⟨Tryz.func49, by kernel_rfl, by kernel_rfl⟩ (by kernel_rfl) fun ivs res bxs h => by
 unfold E_lix at h
 split at h
 ·rename_i p q c k
  obtain ⟨hc, he⟩ := pick1 h
  cases he
  obtain ⟨hc, g2⟩ := andE hc
  obtain ⟨g0, g1⟩ := andE hc
  obtain ⟨b, rfl, h_b⟩ := jat g0
  obtain ⟨l, rfl, h_l⟩ := jae g1
  have e_b : asTb (pTb b) = b := jal b
  have e_l : asL (pL l) = l := jag l
  rw [e_b, e_l] at g2 ⊢
  refine ⟨jap (by kernel_rfl), ?_⟩
  obtain ⟨x, t, hxt⟩ := jqL g2
  obtain ⟨n, hz, hn, hx⟩ := jkc g2
  have tree := jrF b l c k
  have iC := jaj h_b.2.2.1
  have aC := jag b.cols
  rw [List.getD_eq_getElem?_getD, List.getElem?_eq_getElem hn] at hx
  have hx : cellX b l c = l[n] := hx
  simp (disch := omega) only [isL, asL, iC, aC, hz, dT, nqF, jao l n hn, ← hx, nqH, List.headD_cons, PV.isStr, PV.asStr, blt0, Bool.and_true, Bool.true_and] at tree
  unfold chI
  cases he : ((cellX b l c).toList == []) with
  | true => rw [he] at tree; exact ⟨_, tree, rfl, rfl⟩
  | false =>
   rw [he] at tree
   subst hxt
   exact ⟨_, tree, rfl, rfl⟩
 ·cases h
theorem joj : jad Tryz.prog sgs1 := ⟨jmk, jsN, jvc, jvb, trivial⟩
theorem jnS (b : TblT) (l : List ByteArray) (hb : shTb b) (hl : shL l) (ho : b.idxs.all (okC b l) = true) : ∀ (m i : Nat) (u : List ChT), m + i = b.idxs.length → u.length ≤ i + 1 →
  LoopsTo (rdB brC Tryz.prog sgs1 jea jdZ Tryz.f39 8 []) [bxTb 4 b, bxRw 8 l, aFc 10 u, aI i] (.exit 0, [aFc 10 (u ++ chIs 2 b l (b.idxs.drop i))]) := by
 have hlen := hb.2.2.2.1
 intro m
 induction m with
 | zero =>
  intro i u hm hu
  rw [List.drop_eq_nil_of_le (show b.idxs.length ≤ i by omega), show chIs 2 b l [] = [] from rfl, List.append_nil]
  refine .done _ _ ((jjA b l u i).trans ?_)
  try delta zzbd0
  rw [dF (by omega)]
  rfl
 | succ m ih =>
  intro i u hm hu
  have hi : i < b.idxs.length := by omega
  have tree := jjA b l u i
  revert tree; try delta zzbd0; intro tree
  have hc := List.all_eq_true.1 ho _ (List.getElem_mem hi)
  have i1 := jaX hb
  have a1 := jal b
  have i2 := jaj hl
  have a2 := jag l
  have hk := jhO 2 b l b.idxs[i]
  have hq : (u ++ chI 2 b l b.idxs[i]).length ≤ 1048577 := by rw [nqG]; omega
  simp (disch := omega) only [isTb, asTb, isL, asL, i1, a1, i2, a2, dT, nqF, jao b.idxs i hi, nqH, List.headD_cons, PV.isStr, PV.asStr, blt0, hc, wrap1, jmf, Nat.beq_refl, ← jgZ, ← nqG, Bool.and_true, Bool.true_and] at tree
  have := ih (i + 1) (u ++ chI 2 b l b.idxs[i]) (by omega) (by rw [nqG]; omega)
  rw [nqK hi, show chIs 2 b l (b.idxs[i] :: b.idxs.drop (i + 1)) = chI 2 b l b.idxs[i] ++ chIs 2 b l (b.idxs.drop (i + 1)) from rfl, ← List.append_assoc]
  exact .step _ _ _ tree this
theorem jgH : ∀ b ∈ jas (jaW Tryz.f39), ja0 Tryz.prog (tabL sgs1) (OL jea) Tryz.f39.ntmps (pbOf []) jdZ b := by
 refine jar 8 (by kernel_rfl) (by kernel_rfl) (by kernel_rfl) ?_
 intro ls e ls' hl
 replace hl : pickA (jfS ls) = some (e, ls') := hl
 unfold jfS at hl
 split at hl
 ·rename_i x s g q r y u z e n l i
  obtain ⟨hc, he⟩ := pick1 hl
  cases he
  obtain ⟨hc, g9⟩ := andE hc
  obtain ⟨hc, g8⟩ := andE hc
  obtain ⟨hc, g7⟩ := andE hc
  obtain ⟨hc, g6⟩ := andE hc
  obtain ⟨hc, g5⟩ := andE hc
  obtain ⟨hc, g4⟩ := andE hc
  obtain ⟨hc, g3⟩ := andE hc
  obtain ⟨hc, g2⟩ := andE hc
  obtain ⟨g0, g1⟩ := andE hc
  obtain ⟨b, rfl, rfl, rfl, rfl, hb⟩ := jbL g0
  obtain ⟨w, rfl, h_w⟩ := jae g1
  obtain ⟨c, q_c, h_c⟩ := jae g2
  injection q_c with qa qb
  subst qa
  subst qb
  have e_b : asTb (PV.agg [PV.str b.name, PV.str b.glob, pL b.cols, pL b.idxs]) = b := tbA b
  have e_w : asL (pL w) = w := jag w
  have e_c : asCs (.sl c.length (encC c)) = c := jbx c
  rw [e_b, e_w] at g8
  rw [e_b, e_w, e_c]
  obtain rfl := nqB g3
  obtain rfl := nqB g4
  obtain rfl := nqB g5
  obtain rfl := nqB g6
  obtain rfl := eq_of_beq g7
  have := jnS b w hb h_w g8 b.idxs.length 0 c (Nat.add_zero _) (by have := nqI g9; omega)
  rw [List.drop_zero] at this
  exact this
 ·cases hl
theorem jsa : jab Tryz.prog 39 E_sDelA := jcI mix joj (lp := jea) (LO := jdZ) ⟨Tryz.func39, by kernel_rfl, by kernel_rfl⟩ (by kernel_rfl) fun ivs res bxs h => by
 unfold E_sDelA at h
 split at h
 ·rename_i p q k
  obtain ⟨hc, he⟩ := pick1 h
  cases he
  obtain ⟨hc, g2⟩ := andE hc
  obtain ⟨g0, g1⟩ := andE hc
  obtain ⟨t, rfl, h_t⟩ := jae g0
  obtain ⟨b, rfl, h_b⟩ := jat g1
  have e_t : asT (pT t) = t := ja2 t
  have e_b : asTb (pTb b) = b := jal b
  rw [e_t, e_b] at g2 ⊢
  refine ⟨jgH, ?_⟩
  obtain ⟨hT, hB, hR, hlen, hhd, hpos⟩ := jj3 (eq_of_beq g2)
  have tree := jiY t b k
  revert tree; try delta zzbh3; intro tree
  revert tree; try delta zzbh2; intro tree
  revert tree; try delta zzbh1; intro tree
  revert tree; try delta zzbh0; intro tree
  have hX := jj0 t b k
  have ho := jn4 hB hlen
  have i1 := jaX h_b
  have a1 := jal b
  have i2 := jem h_t
  have a2 := ja2 t
  have i4 := tbI h_b
  have a4 := tbA b
  rw [jkr]
  have hk : k.size ≤ 1048576 := by
   rw [← hhd]
   match hq : (rowX t b k).2, hpos with
   | x :: r, _ => exact hX.2 x (by rw [hq]; exact List.mem_cons_self ..)
  have hS : shCs [(⟨2, b.glob, [⟨#[114]⟩, k], ⟨#[]⟩⟩ : ChT)] := ⟨(by show 1 ≤ 1048576; omega), fun x hx => by
   obtain rfl := List.mem_singleton.1 hx
   exact ⟨h_b.2.1, ⟨(by show 2 ≤ 1048576; omega), fun y hy => by
    rcases List.mem_cons.1 hy with rfl | hy
    ·decide
    ·obtain rfl := List.mem_singleton.1 hy
     exact hk⟩, Nat.zero_le _⟩⟩
  have i5 : isE pCs shCs (PV.sl 1 [PV.int .i64 2, PV.str b.glob, PV.sl 2 [PV.str ⟨#[114]⟩, PV.str k], PV.str ⟨#[]⟩]) = true := jeb hS
  have a5 : asE pCs (PV.sl 1 [PV.int .i64 2, PV.str b.glob, PV.sl 2 [PV.str ⟨#[114]⟩, PV.str k], PV.str ⟨#[]⟩]) = [⟨2, b.glob, [⟨#[114]⟩, k], ⟨#[]⟩⟩] := jbx [(⟨2, b.glob, [⟨#[114]⟩, k], ⟨#[]⟩⟩ : ChT)]
  generalize hl : (rowX t b k).2 = l at *
  have i3 : isE pL shL (pL l) = true := jaj hX
  have a3 : asE pL (pL l) = l := jag l
  simp (disch := omega) only [isT, asT, isTb, asTb, isL, asL, isCs, asCs, i1, a1, i2, a2, hT, hB, hR, g2, hl, i3, a3, i4, a4, i5, a5, ho, dT, Nat.beq_refl, beq_self_eq_true, Bool.and_true, Bool.true_and] at tree
  exact ⟨_, tree, rfl, rfl⟩
 ·cases h
theorem jsr : jab Tryz.prog 39 E_sDelB := jcI mix joj (lp := jea) (LO := jdZ) ⟨Tryz.func39, by kernel_rfl, by kernel_rfl⟩ (by kernel_rfl) fun ivs res bxs h => by
 unfold E_sDelB at h
 split at h
 ·rename_i p q k
  obtain ⟨hc, he⟩ := pick1 h
  cases he
  obtain ⟨hc, g2⟩ := andE hc
  obtain ⟨g0, g1⟩ := andE hc
  obtain ⟨t, rfl, h_t⟩ := jae g0
  obtain ⟨b, rfl, h_b⟩ := jat g1
  have e_t : asT (pT t) = t := ja2 t
  have e_b : asTb (pTb b) = b := jal b
  rw [e_t, e_b] at g2 ⊢
  refine ⟨jgH, ?_⟩
  have tree := jiY t b k
  revert tree; try delta zzbh3; intro tree
  revert tree; try delta zzbh2; intro tree
  revert tree; try delta zzbh1; intro tree
  revert tree; try delta zzbh0; intro tree
  have i1 := jaX h_b
  have a1 := jal b
  have i2 := jem h_t
  have a2 := ja2 t
  unfold rowX at g2 ⊢
  simp only [isT, asT, isTb, asTb, i1, a1, i2, a2, Bool.and_true, Bool.true_and] at tree
  cases hT : treeB t with
  | false => rw [hT] at tree; exact ⟨_, tree, rfl, rfl⟩
  | true =>
   cases hB : tblB b with
   | false => rw [hT, hB] at tree; exact ⟨_, tree, rfl, rfl⟩
   | true =>
    rw [hT, hB] at g2 tree
    rw [Bool.true_and, cond_true] at g2 ⊢
    have g3 : ((rowOf (keepR t b) b k).1 == 0) = false := by cases e : ((rowOf (keepR t b) b k).1 == 0) <;> rw [e] at g2 <;> first | rfl | cases g2
    have g4 : ((rowOf (keepR t b) b k).1 != 0) = true := g2
    rw [g3, g4] at tree
    exact ⟨_, tree, rfl, rfl⟩
 ·cases h
end
section
open Go.RowKit
def shb (S I : Entry) : List (FuncId × Entry) := (10, E_szT) :: (11, E_szTb) :: (13, E_toT) :: (14, E_toTb) :: (39, S) :: (40, I) :: (22, E_eqChs) :: (16, E_eqTr) :: (17, E_eqTb) :: (24, E_mkTr) :: (25, E_mkTb) :: (27, E_mkCh) :: [(28, E_hdCh)]
abbrev jlM : List (Nat × List Nat × List Nat) := [(1000000, [], [46, 47, 52, 71, 74, 80, 90, 93, 110, 119]), (1000001, [1800784, 1601168, 1701216, 1601472], []), (2000061, [10, 0, 61], []), (2000066, [11, 2, 66, 11, 3, 70], [])]
def q_shA (br : Br) (t : List NodeT) (b : TblT) (s : ByteArray) := evB br Tryz.prog (shb E_sDelA E_DelA) jlM LO0 Tryz.f8 [cP (pT t), cP (pTb b), cS s]
def q_shB (br : Br) (t : List NodeT) (b : TblT) (s : ByteArray) := evB br Tryz.prog (shb E_sDelB E_DelB) jlM LO0 Tryz.f8 [cP (pT t), cP (pTb b), cS s]
end
end
end Go.Proofs.YtbeebeamdjbkmaaGreatDoor
