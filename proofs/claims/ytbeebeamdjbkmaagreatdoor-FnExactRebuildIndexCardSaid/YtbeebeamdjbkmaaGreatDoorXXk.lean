import Derived.Test.YtbeebeamdjbkmaaGreatDoorXXj
import Derived.Test.YtbeebeamdjbkmaaGreatDoorXXe
namespace Go.Proofs.YtbeebeamdjbkmaaGreatDoor
noncomputable section
set_option linter.unusedVariables false
set_option maxRecDepth 100000
set_option linter.unusedSimpArgs false
section
theorem jm7 (k : Int) : jvq brC k = brC (Nat.beq 75 75 && Nat.beq 0 0 && Nat.beq 0 0 && nilB [] && 0 == 0) (some ((.cv (.pv (.int .i64 k)),[[.lst 4 75 0 [] true]]))) none := by kernel_rfl
def zzat0 (l : List ChT) (u : List ChT) (i : Int) := (PV.agg [PV.int .i64 (PV.asInt (List.headD (List.drop (Int.toNat i * 4) (encC l)) PV.nilp)),PV.str (PV.asStr (List.headD (List.tail (List.drop (Int.toNat i * 4) (encC l))) PV.nilp)),PV.sl (PV.slN (List.headD (List.tail (List.tail (List.drop (Int.toNat i * 4) (encC l)))) PV.nilp)) (PV.slL (List.headD (List.tail (List.tail (List.drop (Int.toNat i * 4) (encC l)))) PV.nilp)),PV.str (PV.asStr (List.headD (List.tail (List.tail (List.tail (List.drop (Int.toNat i * 4) (encC l))))) PV.nilp))])
def zzat1 (l : List ChT) (u : List ChT) (i : Int) := (PV.agg [PV.int .i64 (PV.asInt (List.headD (List.drop (Int.toNat i * 4) (encC u)) PV.nilp)),PV.str (PV.asStr (List.headD (List.tail (List.drop (Int.toNat i * 4) (encC u))) PV.nilp)),PV.sl (PV.slN (List.headD (List.tail (List.tail (List.drop (Int.toNat i * 4) (encC u)))) PV.nilp)) (PV.slL (List.headD (List.tail (List.tail (List.drop (Int.toNat i * 4) (encC u)))) PV.nilp)),PV.str (PV.asStr (List.headD (List.tail (List.tail (List.tail (List.drop (Int.toNat i * 4) (encC u))))) PV.nilp))])
theorem jgF (l : List ChT) (u : List ChT) (i : Int) : juU brC l u i = brC (decide (i < (↑l.length : Int))) (brC (decide (0 ≤ i) && decide (i < (↑l.length : Int))) (brC (Nat.ble 4 (List.length (List.drop (Int.toNat i * 4) (encC l))) && (PV.isInt .i64 (List.headD (List.drop (Int.toNat i * 4) (encC l)) PV.nilp) && (PV.isStr (List.headD (List.tail (List.drop (Int.toNat i * 4) (encC l))) PV.nilp) && (PV.isSl (List.headD (List.tail (List.tail (List.drop (Int.toNat i * 4) (encC l)))) PV.nilp) && (PV.isStr (List.headD (List.tail (List.tail (List.tail (List.drop (Int.toNat i * 4) (encC l))))) PV.nilp) && true && true) && true) && true) && true) && true) (brC (decide (0 ≤ i) && decide (i < (↑u.length : Int))) (brC (Nat.ble 4 (List.length (List.drop (Int.toNat i * 4) (encC u))) && (PV.isInt .i64 (List.headD (List.drop (Int.toNat i * 4) (encC u)) PV.nilp) && (PV.isStr (List.headD (List.tail (List.drop (Int.toNat i * 4) (encC u))) PV.nilp) && (PV.isSl (List.headD (List.tail (List.tail (List.drop (Int.toNat i * 4) (encC u)))) PV.nilp) && (PV.isStr (List.headD (List.tail (List.tail (List.tail (List.drop (Int.toNat i * 4) (encC u))))) PV.nilp) && true && true) && true) && true) && true) && true) (brC (isC (zzat0 l u i) && isC (zzat1 l u i)) (brC (!holds (asC (zzat0 l u i) = asC (zzat1 l u i))) (some (.inr (.ret,[(.pv (.sl l.length (encC l)),none),(.pv (.bool false),none)]))) (some (.inl [(.pv (.sl l.length (encC l)),none),(.pv (.sl u.length (encC u)),none),(.pv (.int .i64 (IntKind.wrap .i64 (i + 1))),none)]))) none) none) none) none) none) (some (.inr (.exit 0,[(.pv (.sl l.length (encC l)),none),(.bad,none)]))) := by kernel_rfl
def zzau0 (l : List ChT) (k : Int) (i : Int) := (PV.sl (PV.slN (List.headD (List.drop 2 (List.drop (Int.toNat i * 4) (encC l))) PV.nilp)) (PV.slL (List.headD (List.drop 2 (List.drop (Int.toNat i * 4) (encC l))) PV.nilp)))
theorem jjk (l : List ChT) (k : Int) (i : Int) : jxg brC l k i = brC (decide (i < (↑l.length : Int))) (brC (decide (0 ≤ i) && decide (i < (↑l.length : Int))) (brC (Nat.blt 0 (List.length (List.drop 0 (List.drop (Int.toNat i * 4) (encC l)))) && PV.isInt .i64 (List.headD (List.drop 0 (List.drop (Int.toNat i * 4) (encC l))) PV.nilp) && true) (brC (PV.asInt (List.headD (List.drop 0 (List.drop (Int.toNat i * 4) (encC l))) PV.nilp) != k) (some (.inr (.ret,[(.pv (.int .i64 k),none)]))) (brC (decide (0 ≤ i) && decide (i < (↑l.length : Int))) (brC (Nat.blt 0 (List.length (List.drop 1 (List.drop (Int.toNat i * 4) (encC l)))) && PV.isStr (List.headD (List.drop 1 (List.drop (Int.toNat i * 4) (encC l))) PV.nilp) && true) (brC (decide (1 ≤ IntKind.wrap .i64 (k + 1)) && holds (IntKind.wrap .i64 (k + 1) ≤ 1000000000)) (brC (!ByteArray.toList (PV.asStr (List.headD (List.drop 1 (List.drop (Int.toNat i * 4) (encC l))) PV.nilp)) == ByteArray.toList (mkV (IntKind.wrap .i64 (k + 1)))) (some (.inr (.ret,[(.pv (.int .i64 (IntKind.wrap .i64 (k + 1))),none)]))) (brC (decide (0 ≤ i) && decide (i < (↑l.length : Int))) (brC (Nat.blt 0 (List.length (List.drop 2 (List.drop (Int.toNat i * 4) (encC l)))) && PV.isSl (List.headD (List.drop 2 (List.drop (Int.toNat i * 4) (encC l))) PV.nilp) && true) (brC (isL (zzau0 l k i) && decide (1 ≤ IntKind.wrap .i64 (IntKind.wrap .i64 (k + 1) + 1)) && holds (IntKind.wrap .i64 (IntKind.wrap .i64 (k + 1) + 1) ≤ 900000000) && holds (asL (zzau0 l k i) = mkL (IntKind.wrap .i64 (IntKind.wrap .i64 (k + 1) + 1)) (asL (zzau0 l k i)))) (brC (decide (IntKind.wrap .i64 (IntKind.wrap .i64 (k + 1) + 1) + (↑(List.length (asL (zzau0 l k i))) : Int) < 0)) (some (.inr (.ret,[(.pv (.int .i64 (IntKind.wrap .i64 (IntKind.wrap .i64 (k + 1) + 1) + (↑(List.length (asL (zzau0 l k i))) : Int))),none)]))) (brC (decide (0 ≤ i) && decide (i < (↑l.length : Int))) (brC (Nat.blt 0 (List.length (List.drop 3 (List.drop (Int.toNat i * 4) (encC l)))) && PV.isStr (List.headD (List.drop 3 (List.drop (Int.toNat i * 4) (encC l))) PV.nilp) && true) (brC (decide (1 ≤ IntKind.wrap .i64 (IntKind.wrap .i64 (k + 1) + 1) + (↑(List.length (asL (zzau0 l k i))) : Int)) && holds (IntKind.wrap .i64 (IntKind.wrap .i64 (k + 1) + 1) + (↑(List.length (asL (zzau0 l k i))) : Int) ≤ 1000000000)) (brC (!ByteArray.toList (PV.asStr (List.headD (List.drop 3 (List.drop (Int.toNat i * 4) (encC l))) PV.nilp)) == ByteArray.toList (mkV (IntKind.wrap .i64 (IntKind.wrap .i64 (k + 1) + 1) + (↑(List.length (asL (zzau0 l k i))) : Int)))) (some (.inr (.ret,[(.pv (.int .i64 (IntKind.wrap .i64 (IntKind.wrap .i64 (k + 1) + 1) + (↑(List.length (asL (zzau0 l k i))) : Int))),none)]))) (some (.inl [(.pv (.sl l.length (encC l)),none),(.pv (.int .i64 (IntKind.wrap .i64 (IntKind.wrap .i64 (IntKind.wrap .i64 (k + 1) + 1) + (↑(List.length (asL (zzau0 l k i))) : Int) + 1))),none),(.pv (.int .i64 (IntKind.wrap .i64 (i + 1))),none)]))) none) none) none)) none) none) none)) none) none) none)) none) none) (some (.inr (.exit 0,[(.pv (.int .i64 k),none)]))) := by kernel_rfl
def zzav0 (n : Nat) (l : List PV) (k : Int) (i : Int) := (List.take (Int.toNat i * 4 + 1) (List.take (Int.toNat i * 4 + 0) l ++ [PV.int .i64 k] ++ List.drop (Int.toNat i * 4 + 0 + 1) l) ++ [PV.str (mkV (IntKind.wrap .i64 (k + 1)))] ++ List.drop (Int.toNat i * 4 + 1 + 1) (List.take (Int.toNat i * 4 + 0) l ++ [PV.int .i64 k] ++ List.drop (Int.toNat i * 4 + 0 + 1) l))
def zzav1 (n : Nat) (l : List PV) (k : Int) (i : Int) := (PV.sl (PV.slN (List.headD (List.drop (Int.toNat i * 4 + 2) (zzav0 n l k i)) PV.nilp)) (PV.slL (List.headD (List.drop (Int.toNat i * 4 + 2) (zzav0 n l k i)) PV.nilp)))
def zzav2 (n : Nat) (l : List PV) (k : Int) (i : Int) := (List.take (Int.toNat i * 4 + 2) (zzav0 n l k i) ++ [PV.sl (PV.slN (List.headD (List.drop (Int.toNat i * 4 + 2) (zzav0 n l k i)) PV.nilp)) (List.map PV.str (mkL (IntKind.wrap .i64 (IntKind.wrap .i64 (k + 1) + 1)) (asL (zzav1 n l k i))))] ++ List.drop (Int.toNat i * 4 + 2 + 1) (zzav0 n l k i))
theorem jiU (n : Nat) (l : List PV) (k : Int) (i : Int) : jwQ brC n l k i = brC (decide (i < (↑n : Int))) (brC (decide (0 ≤ i) && decide (i < (↑n : Int))) (brC (Nat.ble (Int.toNat i * 4 + 0 + 1) l.length && noKid 75 4 (Int.toNat i * 4 + 0)) (brC (decide (1 ≤ IntKind.wrap .i64 (k + 1)) && holds (IntKind.wrap .i64 (k + 1) ≤ 1000000000)) (brC (decide (0 ≤ i) && decide (i < (↑n : Int))) (brC (Nat.ble (Int.toNat i * 4 + 1 + 1) (List.length (List.take (Int.toNat i * 4 + 0) l ++ [PV.int .i64 k] ++ List.drop (Int.toNat i * 4 + 0 + 1) l)) && noKid 75 4 (Int.toNat i * 4 + 1)) (brC (decide (0 ≤ i) && decide (i < (↑n : Int))) (brC (Nat.blt (Int.toNat i * 4 + 2) (List.length (zzav0 n l k i)) && (PV.isSl (List.headD (List.drop (Int.toNat i * 4 + 2) (zzav0 n l k i)) PV.nilp) && isKid 75 4 (Int.toNat i * 4 + 2) 1 9)) (brC (isL (zzav1 n l k i) && Nat.beq 9 9 && decide (1 ≤ IntKind.wrap .i64 (IntKind.wrap .i64 (k + 1) + 1)) && holds (IntKind.wrap .i64 (IntKind.wrap .i64 (k + 1) + 1) ≤ 900000000)) (brC (decide (1 ≤ IntKind.wrap .i64 (IntKind.wrap .i64 (k + 1) + 1) + (↑(List.length (asL (zzav1 n l k i))) : Int)) && holds (IntKind.wrap .i64 (IntKind.wrap .i64 (k + 1) + 1) + (↑(List.length (asL (zzav1 n l k i))) : Int) ≤ 1000000000)) (brC (decide (0 ≤ i) && decide (i < (↑n : Int))) (brC (Nat.ble (Int.toNat i * 4 + 3 + 1) (List.length (zzav2 n l k i)) && noKid 75 4 (Int.toNat i * 4 + 3)) (some (.inl [(.own 0,some (.dls 4 75 n (List.take (Int.toNat i * 4 + 3) (zzav2 n l k i) ++ [PV.str (mkV (IntKind.wrap .i64 (IntKind.wrap .i64 (k + 1) + 1) + (↑(List.length (asL (zzav1 n l k i))) : Int)))] ++ List.drop (Int.toNat i * 4 + 3 + 1) (zzav2 n l k i)) true none)),(.pv (.int .i64 (IntKind.wrap .i64 (IntKind.wrap .i64 (IntKind.wrap .i64 (k + 1) + 1) + (↑(List.length (asL (zzav1 n l k i))) : Int) + 1))),none),(.pv (.int .i64 (IntKind.wrap .i64 (i + 1))),none)])) none) none) none) none) none) none) none) none) none) none) none) (some (.inr (.exit 0,[(.own 0,some (.dls 4 75 n l true none)),(.pv (.int .i64 k),none)]))) := by kernel_rfl
theorem jqX (n : Nat) (l : List PV) (k : Int) : jv1 brC n l k = brC (isCs (PV.sl n l) && Nat.beq (75 + 2000000 - 2000000) 75 && Nat.beq 0 0 && 0 == 0 && decide (1 ≤ k) && holds (k ≤ 100000000) && holds (mkChE k (asCs (PV.sl n l)) ≤ 800000000)) (brC (Nat.beq n n) (some ((.cv (.pv (.int .i64 (mkChE k (asCs (PV.sl n l))))),[[.dls 4 75 n (encC (mkChs k (asCs (PV.sl n l))))]]))) none) none := by kernel_rfl
theorem jnU (k : Int) (i : Int) : juN brC k i = brC (decide (i < (↑0 : Int))) (brC (decide (0 ≤ i) && decide (i < (↑0 : Int))) none none) (some (.inr (.exit 0,[(.pv (.sl 0 []),none),(.pv (.int .i64 k),none)]))) := by kernel_rfl
theorem jnV (l : List ChT) (u : List ChT) : juH brC l u = brC ((↑l.length : Int) != (↑u.length : Int)) (some ((.cv (.pv (.bool false)),[]))) (brC (isCs (pCs l) && isCs (pCs u) && 0 == 0 && decide (List.length (asCs (pCs l)) = List.length (asCs (pCs u))) && holds (asCs (pCs l) = asCs (pCs u))) (some ((.cv (.pv (.bool true)),[]))) (brC (isCs (pCs l) && isCs (pCs u) && 0 == 0 && decide (List.length (asCs (pCs l)) = List.length (asCs (pCs u)))) (some ((.cv (.pv (.bool false)),[]))) none)) := by kernel_rfl
theorem jn1 (k : Int) : jtM brC k = brC (Nat.beq 0 0 && nilB [] && 0 == 0) (some ((.cv (.pv (.int .i64 k)),[]))) none := by kernel_rfl
theorem jn5 (k : Int) (i : Int) : jvO brC k i = brC (decide (i < (↑0 : Int))) (brC (decide (0 ≤ i) && decide (i < (↑0 : Int))) none none) (some (.inr (.exit 0,[(.own 0,some (.lst 4 75 0 [] true)),(.pv (.int .i64 k),none)]))) := by kernel_rfl
theorem jpQ (x : ChT) (y : ChT) : jw9 brC x y = brC (ChT.kind x != ChT.kind y) (some ((.cv (.pv (.bool false)),[]))) (brC (!ByteArray.toList (ChT.name x) == ByteArray.toList (ChT.name y)) (some ((.cv (.pv (.bool false)),[]))) (brC (isL (PV.sl (List.length (ChT.subs x)) (List.map PV.str (ChT.subs x))) && isL (PV.sl (List.length (ChT.subs y)) (List.map PV.str (ChT.subs y)))) (brC (!holds (asL (PV.sl (List.length (ChT.subs x)) (List.map PV.str (ChT.subs x))) = asL (PV.sl (List.length (ChT.subs y)) (List.map PV.str (ChT.subs y))))) (some ((.cv (.pv (.bool false)),[]))) (brC (!ByteArray.toList (ChT.value x) == ByteArray.toList (ChT.value y)) (some ((.cv (.pv (.bool false)),[]))) (some ((.cv (.pv (.bool true)),[]))))) none)) := by kernel_rfl
theorem jrq (l : List ChT) (k : Int) : jxa brC l k = brC (isCs (pCs l) && 0 == 0 && decide (1 ≤ k) && holds (k ≤ 100000000) && holds (mkChE k (asCs (pCs l)) ≤ 800000000) && holds (asCs (pCs l) = mkChs k (asCs (pCs l)))) (some ((.cv (.pv (.int .i64 (mkChE k (asCs (pCs l))))),[]))) none := by kernel_rfl
end
section
open Go.RowKit
def cCh (pre : List PV) (a b c d : PV) (post : List PV) : List PV := pre ++ a :: b :: c :: d :: post
theorem jlv {pre : List PV} {i : Nat} (h : pre.length = i * 4) (j : Nat) (mid : List PV) (x : PV) : List.take (i * 4 + j) (pre ++ mid) ++ [x] ++ List.drop (i * 4 + j + 1) (pre ++ mid) = pre ++ (mid.take j ++ [x] ++ mid.drop (j + 1)) := by
 rw [← h,List.take_length_add_append,Nat.add_assoc,List.drop_length_add_append]
 simp only [List.append_assoc]
theorem jwB {pre : List PV} {i : Nat} (h : pre.length = i * 4) (a b c d z : PV) (post : List PV) : List.take (i * 4 + 0) (cCh pre a b c d post) ++ [z] ++ List.drop (i * 4 + 0 + 1) (cCh pre a b c d post) = cCh pre z b c d post := jlv h 0 _ z
theorem jxt {pre : List PV} {i : Nat} (h : pre.length = i * 4) (a b c d z : PV) (post : List PV) : List.take (i * 4 + 1) (cCh pre a b c d post) ++ [z] ++ List.drop (i * 4 + 1 + 1) (cCh pre a b c d post) = cCh pre a z c d post := jlv h 1 _ z
theorem jwZ {pre : List PV} {i : Nat} (h : pre.length = i * 4) (a b c d z : PV) (post : List PV) : List.take (i * 4 + 2) (cCh pre a b c d post) ++ [z] ++ List.drop (i * 4 + 2 + 1) (cCh pre a b c d post) = cCh pre a b z d post := jlv h 2 _ z
theorem jwC {pre : List PV} {i : Nat} (h : pre.length = i * 4) (a b c d z : PV) (post : List PV) : List.take (i * 4 + 3) (cCh pre a b c d post) ++ [z] ++ List.drop (i * 4 + 3 + 1) (cCh pre a b c d post) = cCh pre a b c z post := jlv h 3 _ z
theorem jpq {pre : List PV} {i : Nat} (h : pre.length = i * 4) (a b c d : PV) (post : List PV) : (cCh pre a b c d post).length = i * 4 + 4 + post.length := by
 unfold cCh
 rw [nqG,h]
 simp only [nqH]
 omega
theorem cCh_b {pre : List PV} {i : Nat} (h : pre.length = i * 4) (a b c d : PV) (post : List PV) (j : Nat) (hj : j < 4) : Nat.ble (i * 4 + j + 1) (cCh pre a b c d post).length = true := Nat.ble_eq_true_of_le (by rw [jpq h]; omega)
theorem jtZ (i : Nat) : noKid 75 4 (i * 4 + 0) = true := by
 unfold noKid
 rw [show (i * 4 + 0) % 4 = 0 by omega]
 kernel_rfl
theorem jvn (i : Nat) : noKid 75 4 (i * 4 + 1) = true := by
 unfold noKid
 rw [show (i * 4 + 1) % 4 = 1 by omega]
 kernel_rfl
theorem jwm {pre : List PV} {i : Nat} (h : pre.length = i * 4) (a b c d : PV) (post : List PV) : Nat.blt (i * 4 + 2) (cCh pre a b c d post).length = true := Nat.ble_eq_true_of_le (by rw [jpq h]; omega)
theorem jwA {pre : List PV} {i : Nat} (h : pre.length = i * 4) (a b c d : PV) (post : List PV) : List.headD (List.drop (i * 4 + 2) (cCh pre a b c d post)) PV.nilp = c := by
 unfold cCh
 rw [← h,List.drop_length_add_append]
 rfl
theorem jvy (i : Nat) : isKid 75 4 (i * 4 + 2) 1 9 = true := by
 unfold isKid
 rw [show (i * 4 + 2) % 4 = 2 by omega]
 kernel_rfl
theorem juC (i : Nat) : noKid 75 4 (i * 4 + 3) = true := by
 unfold noKid
 rw [show (i * 4 + 3) % 4 = 3 by omega]
 kernel_rfl
theorem jd2 : ∀ (k : Int) (l : List ChT),(mkChs k l).length = l.length
 | k,[] => rfl
 | k,x :: t => by unfold mkChs; rw [nqH,nqH,jd2 _ t]
theorem jnS (y : ChT) (u : List ChT) : encC (y :: u) = [PV.int .i64 y.kind,PV.str y.name,PV.sl y.subs.length (y.subs.map .str),PV.str y.value] ++ encC u := rfl
theorem je4 : ∀ (l : List ChT) (k : Int),k ≤ mkChE k l
 | [],k => Int.le_refl _
 | x :: t,k => by
  have := je4 t (k + 3 + (x.subs.length : Int))
  show k ≤ mkChE (k + 3 + (x.subs.length : Int)) t
  omega
theorem jrr (n : Nat) (hn : n ≤ 1048576) : ∀ (l : List ChT) (i : Nat) (pre : List PV) (k : Int),i + l.length = n → pre.length = i * 4 → (∀ x ∈ l,shC x) → 1 ≤ k → mkChE k l ≤ 800000000 →
  LoopsTo (rdB brC Tryz.prog kfb1 jbS jdq Tryz.f27 2 [0]) [aWCh (pre ++ encC l) n,aI k,aI i] (.exit 0,[aWCh (pre ++ encC (mkChs k l)) n,aI (mkChE k l)]) := by
 intro l
 induction l with
 | nil =>
  intro i pre k hi hp hl h1 h2
  refine .done _ _ ((jiU _ _ _ _).trans ?_)
  try delta zzav2
  try delta zzav1
  try delta zzav0
  rw [List.length_nil] at hi
  rw [dF (by omega)]
  rfl
 | cons x t ih =>
  intro i pre k hi hp hl h1 h2
  rw [nqH] at hi
  have hx := hl x (List.mem_cons_self ..)
  have hxl2 : shL x.subs := hx.2.1
  have hz2 : x.subs.length ≤ 1048576 := hxl2.1
  have hE : mkChE (k + 3 + (x.subs.length : Int)) t ≤ 800000000 := h2
  have hG := je4 t (k + 3 + (x.subs.length : Int))
  have tree := jiU n (cCh pre (.int .i64 x.kind) (.str x.name) (.sl x.subs.length (x.subs.map .str)) (.str x.value) (encC t)) k i
  revert tree; try delta zzav2; intro tree
  revert tree; try delta zzav1; intro tree
  revert tree; try delta zzav0; intro tree
  have w0 : IntKind.wrap .i64 (k + 1) = k + 1 := by rw [wrapI (by omega) (by omega)]
  have wi0 : IntKind.wrap .i64 (k) = k := wrapI (by omega) (by omega)
  have hs1 : holds (k + 1 ≤ 1000000000) = true := jal (by omega)
  have ds1 : decide (1 ≤ k + 1) = true := dT (by omega)
  have w1 : IntKind.wrap .i64 (k + 1 + 1) = k + 2 := by rw [wrapI (by omega) (by omega)]; omega
  have hs2 : holds (k + 2 ≤ 900000000) = true := jal (by omega)
  have ds2 : decide (1 ≤ k + 2) = true := dT (by omega)
  have dn2 : decide (k + 2 + (x.subs.length : Int) < 0) = false := dF (by omega)
  have il2 : isE pL shL (PV.sl x.subs.length (x.subs.map .str)) = true := jaj hxl2
  have al2 : asE pL (PV.sl x.subs.length (x.subs.map .str)) = x.subs := jaf x.subs
  have hs3 : holds (k + 2 + (x.subs.length : Int) ≤ 1000000000) = true := jal (by omega)
  have ds3 : decide (1 ≤ k + 2 + (x.subs.length : Int)) = true := dT (by omega)
  have w3 : IntKind.wrap .i64 (k + 2 + (x.subs.length : Int) + 1) = k + 3 + (x.subs.length : Int) := by rw [wrapI (by omega) (by omega)]; omega
  have d0 : decide ((i : Int) < (n : Int)) = true := dT (by omega)
  have d1 : decide (0 ≤ (i : Int)) = true := dT (by omega)
  simp only [nqF,d0,d1,wrap1 (show i ≤ 2305843009213693952 by omega),jwB hp,jxt hp,jwZ hp,jwC hp,cCh_b hp _ _ _ _  _ 0 (by decide),cCh_b hp _ _ _ _  _ 1 (by decide),cCh_b hp _ _ _ _  _ 2 (by decide),cCh_b hp _ _ _ _  _ 3 (by decide),jwm hp,jwA hp,PV.isSl,PV.slN,PV.slL,jtZ i,jvn i,jvy i,juC i,isL,asL,Nat.beq_refl,jch,w0,wi0,hs1,ds1,w1,hs2,ds2,dn2,il2,al2,hs3,ds3,w3,Bool.and_true,Bool.true_and] at tree
  have := ih (i + 1) (pre ++ [.int .i64 (k),.str (mkV (k + 1)),.sl x.subs.length ((mkL (k + 2) x.subs).map .str),.str (mkV (k + 2 + (x.subs.length : Int)))]) (k + 3 + (x.subs.length : Int)) (by omega) (by rw [nqG,hp]; simp only [nqH,List.length_nil]; omega) (fun y hy => hl y (List.mem_cons_of_mem _ hy)) (by omega) hE
  rw [List.append_assoc,List.append_assoc] at this
  have e : pre ++ encC (mkChs k (x :: t)) = pre ++ ([.int .i64 (k),.str (mkV (k + 1)),.sl x.subs.length ((mkL (k + 2) x.subs).map .str),.str (mkV (k + 2 + (x.subs.length : Int)))] ++ encC (mkChs (k + 3 + (x.subs.length : Int)) t)) := by
   rw [show mkChs k (x :: t) = mkCh k x :: mkChs (k + 3 + (x.subs.length : Int)) t from rfl,jnS]
   simp only [mkCh,jch] <;> rfl
  rw [e]
  exact .step _ _ _ tree this
theorem jgx : ∀ b ∈ jar (jaM Tryz.f27),jaO Tryz.prog (tabL kfb1) (OL jbS) Tryz.f27.ntmps (pbOf [0]) jdq b := by
 refine jas 2 (by kernel_rfl) (by kernel_rfl) (by kernel_rfl) ?_
 intro ls e ls' hl
 replace hl : pickA (jfK ls) = some (e,ls') := hl
 unfold jfK at hl
 split at hl
 ·rename_i x e n l k i
  obtain ⟨hc,he⟩ := pick1 hl
  cases he
  obtain ⟨hc,g6⟩ := andE hc
  obtain ⟨hc,g5⟩ := andE hc
  obtain ⟨hc,g4⟩ := andE hc
  obtain ⟨hc,g3⟩ := andE hc
  obtain ⟨hc,g2⟩ := andE hc
  obtain ⟨g0,g1⟩ := andE hc
  obtain ⟨t,q_t,h_t⟩ := jae g0
  injection q_t with qa qb
  subst qa
  subst qb
  have e_t : asE pCs (.sl t.length (encC t)) = t := jbq t
  obtain rfl := nqB g1
  obtain rfl := nqB g2
  obtain rfl := eq_of_beq g3
  unfold asCs
  rw [e_t]
  have g5 := jan g5
  unfold asCs at g6
  rw [e_t] at g6
  exact jrr t.length h_t.1 t 0 [] k (by omega) rfl h_t.2 (nqI g4) (jan g6)
 ·rename_i x e n l k i
  obtain ⟨hc,he⟩ := pick1 hl
  cases he
  obtain ⟨hc,g4⟩ := andE hc
  obtain ⟨hc,g3⟩ := andE hc
  obtain ⟨hc,g2⟩ := andE hc
  obtain ⟨g0,g1⟩ := andE hc
  obtain rfl := nqB g0
  obtain rfl := nqB g1
  obtain rfl := nqB g2
  obtain rfl := ja8 g3
  obtain rfl := eq_of_beq g4
  refine .done _ _ ((jn5 k 0).trans ?_)
  rw [dF (by omega)]
  rfl
 ·cases hl
theorem jka : ∀ b ∈ jar (jaM Tryz.f27),jaO Tryz.prog (tabL kfb1) (OL jbS) Tryz.f27.ntmps (pbOf []) jdD b := by
 refine jas 2 (by kernel_rfl) (by kernel_rfl) (by kernel_rfl) ?_
 intro ls e ls' hl
 unfold jdD at hl
 split at hl
 ·rename_i n l k i
  obtain ⟨hc,he⟩ := pick1 hl
  cases he
  obtain ⟨hc,g2⟩ := andE hc
  obtain ⟨g0,g1⟩ := andE hc
  obtain rfl := nqB g0
  obtain rfl := ja8 g1
  obtain rfl := eq_of_beq g2
  refine .done _ _ ((jnU k 0).trans ?_)
  rw [dF (by omega)]
  rfl
 ·cases hl
theorem jr6 : jab Tryz.prog 27 E_mkCha := jac mix jig (lp := jbS) (LO := jdq) ⟨Tryz.func27,by kernel_rfl,by kernel_rfl⟩ (by kernel_rfl) fun ivs res bxs h => by
 unfold E_mkCha at h
 split at h
 ·rename_i e n l k
  rcases pick2 h with ⟨hc,he⟩ | ⟨hn,hc,he⟩
  ·cases he
   obtain ⟨hc,g4⟩ := andE hc
   obtain ⟨hc,gm⟩ := andE hc
   obtain ⟨g2,g3⟩ := jhS gm
   obtain ⟨g0,g1⟩ := andE hc
   obtain rfl := nqB g0
   refine ⟨jgx,(jqX n l k).trans ?_⟩
   rw [g1,g2,g3,g4,Nat.beq_refl n]
   rfl
  ·cases he
   obtain ⟨hc,g2⟩ := andE hc
   obtain ⟨g0,g1⟩ := andE hc
   obtain rfl := nqB g0
   obtain rfl := nqB g1
   obtain rfl := ja8 g2
   refine ⟨jgx,(jm7 k).trans ?_⟩
   rw [jbO]
   rfl
 ·cases h
theorem jsd : jab Tryz.prog 27 E_mkChb := jac mix jig (lp := jbS) (LO := jdD) ⟨Tryz.func27,by kernel_rfl,by kernel_rfl⟩ (by kernel_rfl) fun ivs res bxs h => by
 unfold E_mkChb at h
 split at h
 ·rename_i n l k
  obtain ⟨hc,he⟩ := pick1 h
  cases he
  obtain ⟨g0,g1⟩ := andE hc
  obtain rfl := nqB g0
  obtain rfl := ja8 g1
  refine ⟨jka,(jn1 k).trans ?_⟩
  rw [jbO]
  rfl
 ·cases h
theorem jvK : jab Tryz.prog 27 E_mkCh := jd0 jr6 jsd
theorem jpR (k : Int) (x : ChT) : mkCh k (mkCh k x) = mkCh k x := by
 unfold mkCh
 simp only [jch,jmw]
theorem jlF (k : Int) (x : ChT) : (fun x : ChT => (k + 3 + (x.subs.length : Int) : Int)) (mkCh k x) = k + 3 + (x.subs.length : Int) := by
 unfold mkCh
 simp only [jch]
theorem jha : ∀ (k : Int) (l : List ChT),mkChs k (mkChs k l) = mkChs k l
 | k,[] => rfl
 | k,x :: t => by
  show mkCh k (mkCh k x) :: mkChs ((fun x : ChT => (k + 3 + (x.subs.length : Int) : Int)) (mkCh k x)) (mkChs (k + 3 + (x.subs.length : Int)) t) = mkCh k x :: mkChs (k + 3 + (x.subs.length : Int)) t
  rw [jpR,jlF,jha]
theorem jlH : ∀ (k : Int) (l : List ChT),mkChE k (mkChs k l) = mkChE k l
 | k,[] => rfl
 | k,x :: t => by
  show mkChE ((fun x : ChT => (k + 3 + (x.subs.length : Int) : Int)) (mkCh k x)) (mkChs (k + 3 + (x.subs.length : Int)) t) = mkChE (k + 3 + (x.subs.length : Int)) t
  rw [jlF,jlH]
theorem jpe : ∀ (l u : List ChT) (i : Nat) (k : Int),u = l.drop i → i + u.length = l.length → l.length ≤ 1048576 → (∀ x ∈ u,shC x) → 1 ≤ k → mkChE k u ≤ 800000000 → u = mkChs k u →
  LoopsTo (rdB brC Tryz.prog kfb4 jie jin Tryz.f28 2 []) [aP (pCs l),aI k,aI i] (.exit 0,[aI (mkChE k u)]) := by
 intro l u
 induction u with
 | nil =>
  intro i k hu hi hn hl h1 h2 hd
  refine .done _ _ ((jjk _ _ _).trans ?_)
  try delta zzau0
  rw [List.length_nil] at hi
  rw [dF (by omega)]
  rfl
 | cons x t ih =>
  intro i k hu hi hn hl h1 h2 hd
  rw [nqH] at hi
  have hil : i < l.length := by omega
  have hx := hl x (List.mem_cons_self ..)
  have hxl2 : shL x.subs := hx.2.1
  have hz2 : x.subs.length ≤ 1048576 := hxl2.1
  have hE : mkChE (k + 3 + (x.subs.length : Int)) t ≤ 800000000 := h2
  have hG := je4 t (k + 3 + (x.subs.length : Int))
  have tree := jjk l k i
  revert tree; try delta zzau0; intro tree
  rw [nqK hil] at hu
  injection hu with hu1 hu2
  have hdr := jdA l i hil
  rw [← hu1,← hu2] at hdr
  rw [show mkChs k (x :: t) = mkCh k x :: mkChs (k + 3 + (x.subs.length : Int)) t from rfl] at hd
  injection hd with hd1 hd2
  have ff0 : x.kind = k := congrArg ChT.kind hd1
  have ff1 : x.name = mkV (k + 1) := congrArg ChT.name hd1
  have ff2 : x.subs = mkL (k + 2) x.subs := congrArg ChT.subs hd1
  have ff3 : x.value = mkV (k + 2 + (x.subs.length : Int)) := congrArg ChT.value hd1
  have hh2 : holds (x.subs = mkL (k + 2) x.subs) = true := jal ff2
  have w0 : IntKind.wrap .i64 (k + 1) = k + 1 := by rw [wrapI (by omega) (by omega)]
  have wi0 : IntKind.wrap .i64 (k) = k := wrapI (by omega) (by omega)
  have hs1 : holds (k + 1 ≤ 1000000000) = true := jal (by omega)
  have ds1 : decide (1 ≤ k + 1) = true := dT (by omega)
  have w1 : IntKind.wrap .i64 (k + 1 + 1) = k + 2 := by rw [wrapI (by omega) (by omega)]; omega
  have hs2 : holds (k + 2 ≤ 900000000) = true := jal (by omega)
  have ds2 : decide (1 ≤ k + 2) = true := dT (by omega)
  have dn2 : decide (k + 2 + (x.subs.length : Int) < 0) = false := dF (by omega)
  have il2 : isE pL shL (PV.sl x.subs.length (x.subs.map .str)) = true := jaj hxl2
  have al2 : asE pL (PV.sl x.subs.length (x.subs.map .str)) = x.subs := jaf x.subs
  have hs3 : holds (k + 2 + (x.subs.length : Int) ≤ 1000000000) = true := jal (by omega)
  have ds3 : decide (1 ≤ k + 2 + (x.subs.length : Int)) = true := dT (by omega)
  have w3 : IntKind.wrap .i64 (k + 2 + (x.subs.length : Int) + 1) = k + 3 + (x.subs.length : Int) := by rw [wrapI (by omega) (by omega)]; omega
  have d0 : decide ((i : Int) < (l.length : Int)) = true := dT (by omega)
  have d1 : decide (0 ≤ (i : Int)) = true := dT (by omega)
  simp only [nqF,hdr,List.drop_zero,List.drop_succ_cons,d0,d1,wrap1 (show i ≤ 2305843009213693952 by omega),nqH,List.headD_cons,List.tail_cons,PV.isStr,PV.asStr,PV.isBool,PV.asBool,PV.isInt,PV.asInt,PV.isSl,PV.slN,PV.slL,ble1,ble2,ble3,ble4,ble5,ble6,blt0,isL,asL,Nat.beq_refl,w0,wi0,hs1,ds1,w1,hs2,ds2,dn2,il2,al2,hs3,ds3,w3,hh2,Bool.and_true,Bool.true_and] at tree
  have bb0 : (k != k) = false := bne_self_eq_false _
  have bb1 : (x.name.toList == (mkV (k + 1)).toList) = true := by rw [← ff1]; exact beq_self_eq_true _
  have bb3 : (x.value.toList == (mkV (k + 2 + (x.subs.length : Int))).toList) = true := by rw [← ff3]; exact beq_self_eq_true _
  rw [ff0,bb0,bb1,bb3] at tree
  have := ih (i + 1) (k + 3 + (x.subs.length : Int)) hu2 (by omega) hn (fun y hy => hl y (List.mem_cons_of_mem _ hy)) (by omega) hE hd2
  exact .step _ _ _ tree this
theorem jve : jab Tryz.prog 28 E_hdCh := jac mix jvT (lp := jie) (LO := jin) ⟨Tryz.func28,by kernel_rfl,by kernel_rfl⟩ (by kernel_rfl) fun ivs res bxs h => by
 unfold E_hdCh at h
 split at h
 ·rename_i p k
  obtain ⟨hc,he⟩ := pick1 h
  cases he
  obtain ⟨hc,k4⟩ := andE hc
  obtain ⟨hc,k3⟩ := andE hc
  obtain ⟨k0,km⟩ := andE hc
  obtain ⟨k1,k2⟩ := jhS km
  obtain ⟨t,rfl,h_t⟩ := jae k0
  have e_t : asCs (pCs t) = t := jbq t
  refine ⟨jas 2 (by kernel_rfl) (by kernel_rfl) (by kernel_rfl) ?_,(jrq t k).trans ?_⟩
  ·intro ls e ls' hl
   replace hl : pickA (jfL ls) = some (e,ls') := hl
   unfold jfL at hl
   split at hl
   ·rename_i p k i
    obtain ⟨hc,he⟩ := pick1 hl
    cases he
    obtain ⟨hc,g5⟩ := andE hc
    obtain ⟨hc,g4⟩ := andE hc
    obtain ⟨hc,g3⟩ := andE hc
    obtain ⟨hc,g2⟩ := andE hc
    obtain ⟨g0,g1⟩ := andE hc
    obtain ⟨t,rfl,h_t⟩ := jae g0
    have e_t : asCs (pCs t) = t := jbq t
    obtain rfl := eq_of_beq g1
    rw [e_t] at g4 g5 ⊢
    have g3 := jan g3
    exact jpe t t 0 k rfl (by omega) h_t.1 h_t.2 (nqI g2) (jan g4) (jan g5)
   ·cases hl
  ·rw [e_t] at k3 k4 ⊢
   rw [k0,k1,k2,k3,k4]
   rfl
 ·cases h
theorem eqvCh (x y : ChT) : holds (x = y) = ((x.kind == y.kind) && ((x.name.toList == y.name.toList) && (holds (x.subs = y.subs) && ((x.value.toList == y.value.toList))))) := by
 rw [Bool.eq_iff_iff]
 constructor
 ·intro h
  have e := jan h
  subst e
  simp only [show ∀ z : List ByteArray,holds (z = z) = true from fun _ => jal rfl,show holds True = true from jal trivial,beq_self_eq_true,Bool.and_true]
 ·intro h
  simp only [nqE,beq_iff_eq] at h
  obtain ⟨h0,h1,h2,h3⟩ := h
  have h2 := jan h2
  cases x
  cases y
  dsimp only at h0 h1 h2 h3
  rw [h0,ba_tl h1,h2,ba_tl h3]
  exact jal rfl
theorem juF : jab Tryz.prog 68 E_eqCh := jac mix jp3 (lp := []) (LO := LO0) ⟨Tryz.func68,by kernel_rfl,by kernel_rfl⟩ (by kernel_rfl) fun ivs res bxs h => by
 unfold E_eqCh at h
 split at h
 ·rename_i p q
  obtain ⟨hc,he⟩ := pick1 h
  cases he
  obtain ⟨k0,k1⟩ := andE hc
  obtain ⟨x,rfl,h_x⟩ := jae k0
  obtain ⟨y,rfl,h_y⟩ := jae k1
  have e_x : asC (pC x) = x := jol x
  have e_y : asC (pC y) = y := jol y
  rw [e_x,e_y,eqvCh]
  refine ⟨jaq (by kernel_rfl),(jpQ x y).trans ?_⟩
  have ix2 := jaj h_x.2.1
  have iy2 := jaj h_y.2.1
  simp only [isL,jaf,ix2,iy2,Bool.and_true]
  unfold bne
  generalize (x.kind == y.kind) = g0
  generalize (x.name.toList == y.name.toList) = g1
  generalize holds (x.subs = y.subs) = g2
  generalize (x.value.toList == y.value.toList) = g3
  cases g0 <;> cases g1 <;> cases g2 <;> cases g3 <;> rfl
 ·cases h
theorem jsW : jad Tryz.prog eqbCh := ⟨juF,trivial⟩
theorem jnB (l u : List ChT) (h_l : shCs l) (h_u : shCs u) (hlu : l.length = u.length) : ∀ (m i : Nat),m + i = l.length → LoopsTo (rdB brC Tryz.prog eqbCh jd3 jdI Tryz.f22 4 []) [aP (pCs l),aP (pCs u),aI i] (if holds (l.drop i = u.drop i) = true then (.exit 0,[aP (pCs l),aX]) else (.ret,[aP (pCs l),aB false])) := by
 have hl := h_l.1
 intro m
 induction m with
 | zero =>
  intro i hm
  rw [List.drop_eq_nil_of_le (show l.length ≤ i by omega),List.drop_eq_nil_of_le (show u.length ≤ i by omega),if_pos (jal rfl)]
  refine .done _ _ ((jgF l u i).trans ?_)
  try delta zzat1
  try delta zzat0
  rw [dF (by omega)]
  rfl
 | succ m ih =>
  intro i hm
  have hi : i < l.length := by omega
  have hiu : i < u.length := by omega
  have tree := jgF l u i
  revert tree; try delta zzat1; intro tree
  revert tree; try delta zzat0; intro tree
  simp (disch := first | omega | rfl) only [isC,jty (jtE h_l hi),jty (jtE h_u hiu),jol,dT,nqF,jdA l i hi,jdA u i hiu,nqH,List.headD_cons,List.tail_cons,PV.isStr,PV.asStr,PV.isSl,PV.slN,PV.slL,PV.isBool,PV.asBool,PV.isInt,PV.asInt,ble1,ble2,ble3,ble4,ble5,ble6,blt0,wrap1,Bool.and_true,Bool.true_and] at tree
  have ih' := ih (i + 1) (by omega)
  rw [nqK hi,nqK hiu]
  cases hb : holds (l[i] = u[i]) with
  | true =>
   rw [hb] at tree
   have e : l[i] = u[i] := jan hb
   have e2 : holds (l[i] :: List.drop (i + 1) l = u[i] :: List.drop (i + 1) u) = holds (List.drop (i + 1) l = List.drop (i + 1) u) := by
    congr 1
    rw [e]
    exact propext ⟨fun h => by injection h,fun h => by rw [h]⟩
   rw [e2]
   exact .step _ _ _ tree ih'
  | false =>
   rw [hb] at tree
   rw [if_neg (fun h => by
    have := jan h
    injection this with h1 _
    rw [jal h1] at hb
    cases hb)]
   exact .done _ _ tree
theorem jrX : jab Tryz.prog 22 E_eqChs := jac mix jsW (lp := jd3) (LO := jdI) ⟨Tryz.func22,by kernel_rfl,by kernel_rfl⟩ (by kernel_rfl) fun ivs res bxs h => by
 unfold E_eqChs at h
 split at h
 ·rename_i p q
  obtain ⟨hc,he⟩ := pick1 h
  cases he
  obtain ⟨k0,k1⟩ := andE hc
  obtain ⟨l,rfl,h_l⟩ := jae k0
  obtain ⟨u,rfl,h_u⟩ := jae k1
  have e_l : asCs (pCs l) = l := jbq l
  have e_u : asCs (pCs u) = u := jbq u
  have i_l : isCs (pCs l) = true := jdg h_l
  have i_u : isCs (pCs u) = true := jdg h_u
  rw [e_l,e_u]
  refine ⟨jas 4 (by kernel_rfl) (by kernel_rfl) (by kernel_rfl) ?_,?_⟩
  ·intro ls e ls' hl
   replace hl : pickA (jeh ls) = some (e,ls') := hl
   unfold jeh at hl
   split at hl
   ·rename_i p q i
    have key : (isCs p && isCs q && (i == 0) && decide ((asCs p).length = (asCs q).length)) = true → LoopsTo (rdB brC Tryz.prog eqbCh jd3 jdI Tryz.f22 4 []) [aP p,aP q,aI i] (if holds (asCs p = asCs q) = true then (.exit 0,[aP p,aX]) else (.ret,[aP p,aB false])) := fun hc => by
     obtain ⟨hc,g3⟩ := andE hc
     obtain ⟨hc,g2⟩ := andE hc
     obtain ⟨g0,g1⟩ := andE hc
     obtain ⟨t,rfl,h_t⟩ := jae g0
     obtain ⟨v,rfl,h_v⟩ := jae g1
     have e_t : asCs (pCs t) = t := jbq t
     have e_v : asCs (pCs v) = v := jbq v
     rw [e_t,e_v] at g3 ⊢
     rw [eq_of_beq g2]
     exact jnB t v h_t h_v (nqI g3) t.length 0 rfl
    rcases pick2 hl with ⟨hc,he⟩ | ⟨hn,hc,he⟩
    ·cases he
     obtain ⟨hc,k⟩ := andE hc
     have := key hc
     rw [if_pos k] at this
     exact this
    ·cases he
     have := key hc
     rw [hc,Bool.true_and] at hn
     rw [hn,if_neg Bool.false_ne_true] at this
     exact this
   ·cases hl
  ·have tree := jnV l u
   rw [i_l,i_u,e_l,e_u] at tree
   by_cases hlen : l.length = u.length
   ·have hb : (((l.length : Nat) : Int) == ((u.length : Nat) : Int)) = true := beq_iff_eq.2 (by omega)
    have hb2 : (((l.length : Nat) : Int) != ((u.length : Nat) : Int)) = false := by unfold bne; rw [hb]; rfl
    simp only [hb,hb2,decide_eq_true hlen,Bool.and_true,Bool.true_and,beq_self_eq_true] at tree
    cases hh : holds (l = u) with
    | true => rw [hh] at tree; exact tree.trans rfl
    | false => rw [hh] at tree; exact tree.trans rfl
   ·have hb : (((l.length : Nat) : Int) == ((u.length : Nat) : Int)) = false := beq_eq_false_iff_ne.2 (by omega)
    have hb2 : (((l.length : Nat) : Int) != ((u.length : Nat) : Int)) = true := by unfold bne; rw [hb]; rfl
    have hh : holds (l = u) = false := @decide_eq_false _ (Classical.propDecidable _) fun e => hlen (by rw [e])
    simp only [hb,hb2] at tree
    rw [hh]
    exact tree.trans rfl
 ·cases h
end
section
open Go.RowKit
def cellX (b : TblT) (l : List ByteArray) (c : ByteArray) : ByteArray := l.getD (posS b.cols c).toNat ⟨#[]⟩
def fstS (l : List ByteArray) : ByteArray := Classical.choose (⟨l.headD ⟨#[]⟩,rfl⟩ : ∃ x,x = l.headD ⟨#[]⟩)
theorem jph (l : List ByteArray) : fstS l = l.headD ⟨#[]⟩ := Classical.choose_spec (⟨l.headD ⟨#[]⟩,rfl⟩ : ∃ x,x = l.headD ⟨#[]⟩)
def okC (b : TblT) (l : List ByteArray) (c : ByteArray) : Bool := decide (0 ≤ posS b.cols c) && decide (posS b.cols c < l.length)
def chI (kind : Int) (b : TblT) (l : List ByteArray) (c : ByteArray) : List ChT := bif ((cellX b l c).toList == []) then [] else [⟨kind,b.glob,[⟨#[105]⟩,c,cellX b l c,l.headD ⟨#[]⟩],⟨#[]⟩⟩]
def chIs (kind : Int) (b : TblT) (l : List ByteArray) (cs : List ByteArray) : List ChT := cs.flatMap (chI kind b l)
def sgb0 : List (FuncId × Entry) := [(100,E_place)]
def jxk (br : Br) (b : TblT) (l : List ByteArray) (c : ByteArray) := evB br Tryz.prog sgb0 [] LO0 Tryz.f65 [cP (pTb b),cP (.agg [pL l]),cS c]
def E_cell : Entry := fun ivs => match ivs with
 | [.cv (.pv p),.cv (.pv (.agg [q])),.cv (.pv (.str c))] => [(isTb p && isL q && okC (asTb p) (asL q) c,cS (cellX (asTb p) (asL q) c),[])]
 | _ => []
def sgb1 : List (FuncId × Entry) := (65,E_cell) :: sgb0
abbrev jmy : List (Nat × List Nat × List Nat) := [(1000000,[25],[]),(1000002,[27],[])]
def jqU (br : Br) (b : TblT) (kind : Int) (l : List ByteArray) (c : ByteArray) := evB br Tryz.prog sgb1 jmy LO0 Tryz.f67 [cP (pTb b),cI kind,cP (.agg [pL l]),cS c]
def E_inode0 : Entry := fun ivs => match ivs with
 | [.cv (.pv p),.cv (.pv (.int .i64 k)),.cv (.pv (.agg [q])),.cv (.pv (.str c))] =>
  [(isTb p && isL q && okC (asTb p) (asL q) c && ((cellX (asTb p) (asL q) c).toList == []),.cv (.pv .nils),[]),
   (isTb p && isL q && okC (asTb p) (asL q) c,.cv (.dls 4 75 1 (encC (chI k (asTb p) (asL q) c))),[])]
 | _ => []
def E_inode : Entry := fun ivs => match ivs with
 | [.cv (.pv p),.cv (.pv (.int .i64 k)),.cv (.pv (.agg [q])),.cv (.pv (.str c))] =>
  [(isTb p && isL q && okC (asTb p) (asL q) c,.cv (.dls 4 75 (chI k (asTb p) (asL q) c).length (encC (chI k (asTb p) (asL q) c))),[])]
 | _ => []
def sgb2 : List (FuncId × Entry) := (67,E_inode) :: sgb1
abbrev jg2 : List (Nat × List Nat × List Nat) := [(3,[1,3,5,7,12,13,14],[7]),(1000000,[10],[])]
abbrev bxRw (slot : Nat) (l : List ByteArray) : AV × Option Ob := aBx slot [.pv (pL l)]
abbrev aC0 (slot : Nat) : AV × Option Ob := (.own (4096 * slot),some (.lst 4 75 0 [] true))
abbrev aCd (slot : Nat) (n : Nat) (l : List PV) : AV × Option Ob := (.own (4096 * slot),some (.dls 4 75 n l true none))
def jit (ls : LS) : List (Bool × Ex × LS) := match ls with
 | [(.pv (.int .i64 k),none),(.ptr x 0,some (.box [.pv (.str s),.pv (.str g),.pv q,.pv r])),(.ptr y 0,some (.box [.pv u])),(.own z,some (.lst 4 e 0 [] true)),(.pv p,none),(.pv (.int .i64 n),none),(.pv (.int .i64 i),none)] =>
  [(isTb (.agg [.str s,.str g,q,r]) && isL u && isL p && Nat.beq x 12288 && Nat.beq y 20480 && Nat.beq z 28672 && Nat.beq e 75 && (n == ((asL p).length : Int)) && (i == 0) && Nat.beq (asL p).length 0,.exit 0,[aC0 7]),
   (isTb (.agg [.str s,.str g,q,r]) && isL u && isL p && Nat.beq x 12288 && Nat.beq y 20480 && Nat.beq z 28672 && Nat.beq e 75 && (n == ((asL p).length : Int)) && (i == 0) && (asL p).all (okC (asTb (.agg [.str s,.str g,q,r])) (asL u)),.exit 0,[aCd 7 (chIs k (asTb (.agg [.str s,.str g,q,r])) (asL u) (asL p)).length (encC (chIs k (asTb (.agg [.str s,.str g,q,r])) (asL u) (asL p)))])]
 | _ => []
def jgA : LoopT := fun k ls => bif Nat.beq k 3 then jit ls else []
def jwO (br : Br) (kd : Int) (b : TblT) (l cs : List ByteArray) (i : Int) := rdB br Tryz.prog sgb2 jg2 jgA Tryz.f81 3 [] [aI kd,bxTb 3 b,bxRw 5 l,aC0 7,aP (pL cs),aI cs.length,aI i]
def jww (br : Br) (kd : Int) (b : TblT) (l cs : List ByteArray) (i : Int) (u : List ChT) := rdB br Tryz.prog sgb2 jg2 jgA Tryz.f81 3 [] [aI kd,bxTb 3 b,bxRw 5 l,aCd 7 u.length (encC u),aP (pL cs),aI cs.length,aI i]
def q_ins (br : Br) (b : TblT) (kd : Int) (l : List ByteArray) := evB br Tryz.prog sgb2 jg2 jgA Tryz.f81 [cP (pTb b),cI kd,cP (.agg [pL l])]
def E_ins0 : Entry := fun ivs => match ivs with
 | [.cv (.pv p),.cv (.pv (.int .i64 k)),.cv (.pv (.agg [q]))] =>
  [(isTb p && isL q && Nat.beq (asTb p).idxs.length 0,.cv (.lst 4 75 0 [] true),[]),
   (isTb p && isL q && (asTb p).idxs.all (okC (asTb p) (asL q)),.cv (.dls 4 75 (chIs k (asTb p) (asL q) (asTb p).idxs).length (encC (chIs k (asTb p) (asL q) (asTb p).idxs))),[])]
 | _ => []
def E_ins : Entry := fun ivs => match ivs with
 | [.cv (.pv p),.cv (.pv (.int .i64 k)),.cv (.pv (.agg [q]))] =>
  [(isTb p && isL q && (asTb p).idxs.all (okC (asTb p) (asL q)),.cv (.dls 4 75 (chIs k (asTb p) (asL q) (asTb p).idxs).length (encC (chIs k (asTb p) (asL q) (asTb p).idxs))),[])]
 | _ => []
def sgs0 : List (FuncId × Entry) := [(60,E_place)]
def q_lix (br : Br) (b : TblT) (l : List ByteArray) (c : ByteArray) (kd : Int) := evB br Tryz.prog sgs0 [] LO0 Tryz.f49 [cP (pTb b),cP (.agg [pL l]),cS c,cI kd]
def E_lix : Entry := fun ivs => match ivs with
 | [.cv (.pv p),.cv (.pv (.agg [q])),.cv (.pv (.str c)),.cv (.pv (.int .i64 k))] =>
  [(isTb p && isL q && okC (asTb p) (asL q) c,cP (pCs (chI k (asTb p) (asL q) c)),[])]
 | _ => []
abbrev aFc (slot : Nat) (l : List ChT) : AV × Option Ob := (.own (4096 * slot),some (.lst 4 75 l.length (encC l) false))
end
section
def zzaw0 (b : TblT) (kind : Int) (l : List ByteArray) (c : ByteArray) := (PV.agg [PV.str (TblT.name b),PV.str (TblT.glob b),PV.sl (List.length (TblT.cols b)) (List.map PV.str (TblT.cols b)),PV.sl (List.length (TblT.idxs b)) (List.map PV.str (TblT.idxs b))])
theorem joa (b : TblT) (kind : Int) (l : List ByteArray) (c : ByteArray) : jqU brC b kind l c = brC (isTb (zzaw0 b kind l c) && isL (PV.sl l.length (List.map PV.str l)) && okC (asTb (zzaw0 b kind l c)) (asL (PV.sl l.length (List.map PV.str l))) c) (brC (ByteArray.toList (cellX (asTb (zzaw0 b kind l c)) (asL (PV.sl l.length (List.map PV.str l))) c) == []) (some ((.cv (.pv .nils),[]))) (brC (decide (0 ≤ 0) && decide (0 < (↑l.length : Int))) (brC (Nat.blt 0 (List.length (List.drop 0 (List.map PV.str l))) && PV.isStr (List.headD (List.drop 0 (List.map PV.str l)) PV.nilp) && true) (some ((.cv (.dls 4 75 1 [PV.int .i64 kind,PV.str b.glob,PV.sl 4 [PV.str { data := #[105] },PV.str c,PV.str (cellX (asTb (zzaw0 b kind l c)) (asL (PV.sl l.length (List.map PV.str l))) c),PV.str (PV.asStr (List.headD (List.drop 0 (List.map PV.str l)) PV.nilp))],PV.str { data := #[] }]),[]))) none) none)) none := by kernel_rfl
theorem jr2 (b : TblT) (kd : Int) (l : List ByteArray) : q_ins brC b kd l = brC (isTb (PV.agg [PV.str b.name,PV.str b.glob,pL b.cols,pL b.idxs]) && isL (pL l) && isL (pL b.idxs) && Nat.beq 12288 12288 && Nat.beq 20480 20480 && Nat.beq 28672 28672 && Nat.beq 75 75 && (↑b.idxs.length : Int) == (↑(List.length (asL (pL b.idxs))) : Int) && 0 == 0 && Nat.beq (List.length (asL (pL b.idxs))) 0) (some ((.cv (.lst 4 75 0 [] true),[]))) (brC (isTb (PV.agg [PV.str b.name,PV.str b.glob,pL b.cols,pL b.idxs]) && isL (pL l) && isL (pL b.idxs) && Nat.beq 12288 12288 && Nat.beq 20480 20480 && Nat.beq 28672 28672 && Nat.beq 75 75 && (↑b.idxs.length : Int) == (↑(List.length (asL (pL b.idxs))) : Int) && 0 == 0 && List.all (asL (pL b.idxs)) (okC (asTb (PV.agg [PV.str b.name,PV.str b.glob,pL b.cols,pL b.idxs])) (asL (pL l)))) (some ((.cv (.dls 4 75 (List.length (chIs kd (asTb (PV.agg [PV.str b.name,PV.str b.glob,pL b.cols,pL b.idxs])) (asL (pL l)) (asL (pL b.idxs)))) (encC (chIs kd (asTb (PV.agg [PV.str b.name,PV.str b.glob,pL b.cols,pL b.idxs])) (asL (pL l)) (asL (pL b.idxs))))),[]))) none) := by kernel_rfl
theorem jqm (b : TblT) (l : List ByteArray) (c : ByteArray) : jxk brC b l c = brC (isL (PV.sl b.cols.length (List.map PV.str b.cols))) (brC (decide (0 ≤ posS (asL (PV.sl b.cols.length (List.map PV.str b.cols))) c) && decide (posS (asL (PV.sl b.cols.length (List.map PV.str b.cols))) c < (↑l.length : Int))) (brC (Nat.blt 0 (List.length (List.drop (Int.toNat (posS (asL (PV.sl b.cols.length (List.map PV.str b.cols))) c) * 1) (List.map PV.str l))) && PV.isStr (List.headD (List.drop (Int.toNat (posS (asL (PV.sl b.cols.length (List.map PV.str b.cols))) c) * 1) (List.map PV.str l)) PV.nilp) && true) (some ((.cv (.pv (.str (PV.asStr (List.headD (List.drop (Int.toNat (posS (asL (PV.sl b.cols.length (List.map PV.str b.cols))) c) * 1) (List.map PV.str l)) PV.nilp)))),[]))) none) none) none := by kernel_rfl
def zzay0 (kd : Int) (b : TblT) (l : List ByteArray) (cs : List ByteArray) (i : Int) (u : List ChT) := (chI kd (asTb (PV.agg [PV.str (TblT.name b),PV.str (TblT.glob b),PV.sl (List.length (TblT.cols b)) (List.map PV.str (TblT.cols b)),PV.sl (List.length (TblT.idxs b)) (List.map PV.str (TblT.idxs b))])) (asL (PV.sl (List.length l) (List.map PV.str l))) (PV.asStr (List.headD (List.drop (Int.toNat i * 1) (List.map PV.str cs)) PV.nilp)))
theorem jiz (kd : Int) (b : TblT) (l : List ByteArray) (cs : List ByteArray) (i : Int) (u : List ChT) : jww brC kd b l cs i u = brC (decide (i < (↑cs.length : Int))) (brC (decide (0 ≤ i) && decide (i < (↑cs.length : Int))) (brC (Nat.blt 0 (List.length (List.drop (Int.toNat i * 1) (List.map PV.str cs))) && PV.isStr (List.headD (List.drop (Int.toNat i * 1) (List.map PV.str cs)) PV.nilp) && true) (brC (isTb (PV.agg [PV.str b.name,PV.str b.glob,PV.sl b.cols.length (List.map PV.str b.cols),PV.sl b.idxs.length (List.map PV.str b.idxs)]) && isL (PV.sl l.length (List.map PV.str l)) && okC (asTb (PV.agg [PV.str b.name,PV.str b.glob,PV.sl b.cols.length (List.map PV.str b.cols),PV.sl b.idxs.length (List.map PV.str b.idxs)])) (asL (PV.sl l.length (List.map PV.str l))) (PV.asStr (List.headD (List.drop (Int.toNat i * 1) (List.map PV.str cs)) PV.nilp))) (brC (decide (List.length u + List.length (zzay0 kd b l cs i u) ≤ 140737488351232) && decide ((List.length u + List.length (zzay0 kd b l cs i u)) * 64 ≤ 140737488355328)) (some (.inl [(.pv (.int .i64 kd),none),(.ptr 12288 0,some (.box [.pv (.str b.name),.pv (.str b.glob),.pv (.sl b.cols.length (List.map PV.str b.cols)),.pv (.sl b.idxs.length (List.map PV.str b.idxs))])),(.ptr 20480 0,some (.box [.pv (.sl l.length (List.map PV.str l))])),(.own 28672,some (.dls 4 75 (List.length u + List.length (zzay0 kd b l cs i u)) (encC u ++ encC (zzay0 kd b l cs i u)) true none)),(.pv (.sl cs.length (List.map PV.str cs)),none),(.pv (.int .i64 (↑cs.length : Int)),none),(.pv (.int .i64 (IntKind.wrap .i64 (i + 1))),none)])) none) none) none) none) (some (.inr (.exit 0,[(.own 28672,some (.dls 4 75 u.length (encC u) true none))]))) := by kernel_rfl
def zzaz0 (kd : Int) (b : TblT) (l : List ByteArray) (cs : List ByteArray) (i : Int) := (chI kd (asTb (PV.agg [PV.str (TblT.name b),PV.str (TblT.glob b),PV.sl (List.length (TblT.cols b)) (List.map PV.str (TblT.cols b)),PV.sl (List.length (TblT.idxs b)) (List.map PV.str (TblT.idxs b))])) (asL (PV.sl (List.length l) (List.map PV.str l))) (PV.asStr (List.headD (List.drop (Int.toNat i * 1) (List.map PV.str cs)) PV.nilp)))
theorem jjO (kd : Int) (b : TblT) (l : List ByteArray) (cs : List ByteArray) (i : Int) : jwO brC kd b l cs i = brC (decide (i < (↑cs.length : Int))) (brC (decide (0 ≤ i) && decide (i < (↑cs.length : Int))) (brC (Nat.blt 0 (List.length (List.drop (Int.toNat i * 1) (List.map PV.str cs))) && PV.isStr (List.headD (List.drop (Int.toNat i * 1) (List.map PV.str cs)) PV.nilp) && true) (brC (isTb (PV.agg [PV.str b.name,PV.str b.glob,PV.sl b.cols.length (List.map PV.str b.cols),PV.sl b.idxs.length (List.map PV.str b.idxs)]) && isL (PV.sl l.length (List.map PV.str l)) && okC (asTb (PV.agg [PV.str b.name,PV.str b.glob,PV.sl b.cols.length (List.map PV.str b.cols),PV.sl b.idxs.length (List.map PV.str b.idxs)])) (asL (PV.sl l.length (List.map PV.str l))) (PV.asStr (List.headD (List.drop (Int.toNat i * 1) (List.map PV.str cs)) PV.nilp))) (brC (decide (0 + List.length (zzaz0 kd b l cs i) ≤ 140737488351232) && decide ((0 + List.length (zzaz0 kd b l cs i)) * 64 ≤ 140737488355328)) (some (.inl [(.pv (.int .i64 kd),none),(.ptr 12288 0,some (.box [.pv (.str b.name),.pv (.str b.glob),.pv (.sl b.cols.length (List.map PV.str b.cols)),.pv (.sl b.idxs.length (List.map PV.str b.idxs))])),(.ptr 20480 0,some (.box [.pv (.sl l.length (List.map PV.str l))])),(.own 28672,some (.dls 4 75 (0 + List.length (zzaz0 kd b l cs i)) ([] ++ encC (zzaz0 kd b l cs i)) true none)),(.pv (.sl cs.length (List.map PV.str cs)),none),(.pv (.int .i64 (↑cs.length : Int)),none),(.pv (.int .i64 (IntKind.wrap .i64 (i + 1))),none)])) none) none) none) none) (some (.inr (.exit 0,[(.own 28672,some (.lst 4 75 0 [] true))]))) := by kernel_rfl
theorem jsL (b : TblT) (l : List ByteArray) (c : ByteArray) (kd : Int) : q_lix brC b l c kd = brC (isL (PV.sl b.cols.length (List.map PV.str b.cols))) (brC (decide (0 ≤ posS (asL (PV.sl b.cols.length (List.map PV.str b.cols))) c) && decide (posS (asL (PV.sl b.cols.length (List.map PV.str b.cols))) c < (↑l.length : Int))) (brC (Nat.blt 0 (List.length (List.drop (Int.toNat (posS (asL (PV.sl b.cols.length (List.map PV.str b.cols))) c) * 1) (List.map PV.str l))) && PV.isStr (List.headD (List.drop (Int.toNat (posS (asL (PV.sl b.cols.length (List.map PV.str b.cols))) c) * 1) (List.map PV.str l)) PV.nilp) && true) (brC (ByteArray.toList (PV.asStr (List.headD (List.drop (Int.toNat (posS (asL (PV.sl b.cols.length (List.map PV.str b.cols))) c) * 1) (List.map PV.str l)) PV.nilp)) == []) (some ((.cv (.lst 4 75 0 [] false),[]))) (brC (decide (0 ≤ 0) && decide (0 < (↑l.length : Int))) (brC (Nat.blt 0 (List.length (List.drop 0 (List.map PV.str l))) && PV.isStr (List.headD (List.drop 0 (List.map PV.str l)) PV.nilp) && true) (some ((.cv (.lst 4 75 1 [PV.int .i64 kd,PV.str b.glob,PV.sl 4 [PV.str { data := #[105] },PV.str c,PV.str (PV.asStr (List.headD (List.drop (Int.toNat (posS (asL (PV.sl b.cols.length (List.map PV.str b.cols))) c) * 1) (List.map PV.str l)) PV.nilp)),PV.str (PV.asStr (List.headD (List.drop 0 (List.map PV.str l)) PV.nilp))],PV.str { data := #[] }] false),[]))) none) none)) none) none) none := by kernel_rfl
end
section
open Go.RowKit
theorem jii {P : Program} {g : FuncId} {ivs : List IV} {bxs : List (List CV)} {k : Nat} {e : TypeId} (h : jav P g ivs (.cv (.pv .nils)) bxs) : jav P g ivs (.cv (.dls k e 0 [])) bxs := by
 intro w com vals bs h1 h2 h3 h4
 refine Calls.mono (h w com vals bs h1 h2 h3 h4) ?_
 rintro en w' ⟨v,com',rbs,bbs,e1,e2,e3,e4,e5,e6,e7,e8,e9⟩
 cases e6 with
 | one _ _ _ e6 =>
  cases e6 with
  | cv _ _ _ e6 =>
   cases e6 with
   | pv _ e6 =>
    cases e6
    exact ⟨_,com',[],bbs,e1,e2,e3,e4,e5,.one _ _ _ (.cv _ _ _ (.dls _ k e 0 [] [] [] [] ⟨rowQ.nil _ _ _,(fun _ h => nomatch h),(fun _ h => by simp [Value.ownBlock] at h),.nil _ _ _,(by simp [Value.ownBlock]),(by simp [Value.ownBlock])⟩)),e7,e8,e9⟩
theorem jdw {P : Program} {g : FuncId} {ivs : List IV} {bxs : List (List CV)} {k : Nat} {e : TypeId} (h : jav P g ivs (.cv (.lst k e 0 [] true)) bxs) : jav P g ivs (.cv (.dls k e 0 [])) bxs := by
 intro w com vals bs h1 h2 h3 h4
 refine Calls.mono (h w com vals bs h1 h2 h3 h4) ?_
 rintro en w' ⟨v,com',rbs,bbs,e1,e2,e3,e4,e5,e6,e7,e8,e9⟩
 cases e6 with
 | one _ _ _ e6 =>
  cases e6 with
  | cv _ _ _ e6 =>
   cases e6 with
   | lst _ _ _ _ _ xs e6 =>
    have hxs : xs = [] := List.length_eq_zero_iff.1 (by rw [e6.reps.1]; rfl)
    subst hxs
    exact ⟨v,com',_,bbs,e1,e2,e3,e4,e5,.one _ _ _ (.cv _ _ _ (.dls _ k e 0 [] _ [] [] ⟨e6.own,e6.one,fun b hb => e6.com b hb,.nil _ _ _,by cases v.ownBlock <;> simp,by rw [List.append_nil]⟩)),e7,e8,e9⟩
theorem jxo : jab Tryz.prog 100 E_place := ⟨jfN.1,fun ivs res bxs h => jfN.2 ivs res bxs (by
 unfold E_place at h
 split at h
 ·exact h
 ·cases h)⟩
theorem jj7 {b : TblT} {l : List ByteArray} {c : ByteArray} (h : okC b l c = true) : ∃ n : Nat,posS b.cols c = (n : Int) ∧ n < l.length ∧ cellX b l c = l.getD n ⟨#[]⟩ := by
 obtain ⟨h1,h2⟩ := andE h
 have h1 := nqI h1
 have h2 := nqI h2
 obtain ⟨n,hn⟩ := Int.eq_ofNat_of_zero_le h1
 rw [hn] at h2
 exact ⟨n,hn,by omega,by unfold cellX; rw [hn,nqF]⟩
theorem jqj : jad Tryz.prog sgb0 := ⟨jxo,trivial⟩
theorem jvA : jab Tryz.prog 65 E_cell := jac mix jqj (lp := []) (LO := LO0) ⟨Tryz.func65,by kernel_rfl,by kernel_rfl⟩ (by kernel_rfl) fun ivs res bxs h => by
 unfold E_cell at h
 split at h
 ·rename_i p q c
  obtain ⟨hc,he⟩ := pick1 h
  cases he
  obtain ⟨hc,g2⟩ := andE hc
  obtain ⟨g0,g1⟩ := andE hc
  obtain ⟨b,rfl,h_b⟩ := jap g0
  obtain ⟨l,rfl,h_l⟩ := jae g1
  have e_b : asTb (pTb b) = b := jai b
  have e_l : asL (pL l) = l := jaf l
  rw [e_b,e_l] at g2 ⊢
  refine ⟨jaq (by kernel_rfl),?_⟩
  obtain ⟨n,hz,hn,hx⟩ := jj7 g2
  have tree := jqm b l c
  have iC := jaj h_b.2.2.1
  have aC := jaf b.cols
  simp (disch := omega) only [isL,asL,iC,aC,hz,dT,nqF,jao l n hn,nqH,List.headD_cons,PV.isStr,PV.asStr,blt0,Bool.and_true,Bool.true_and] at tree
  rw [hx,List.getD_eq_getElem?_getD,List.getElem?_eq_getElem hn]
  exact tree.trans rfl
 ·cases h
theorem jrw : jad Tryz.prog sgb1 := ⟨jvA,jqj⟩
theorem jox {b : TblT} {l : List ByteArray} {c : ByteArray} (h : okC b l c = true) : ∃ x t,l = x :: t := by
 obtain ⟨n,_,hn,_⟩ := jj7 h
 cases l with
 | nil => exact absurd hn (Nat.not_lt_zero _)
 | cons x t => exact ⟨x,t,rfl⟩
theorem jff : jab Tryz.prog 67 E_inode0 := jac mix jrw (lp := jmy) (LO := LO0) ⟨Tryz.func67,by kernel_rfl,by kernel_rfl⟩ (by kernel_rfl) fun ivs res bxs h => by
 unfold E_inode0 at h
 split at h
 ·rename_i p k q c
  refine ⟨jaq (by kernel_rfl),?_⟩
  have key : ∀ b l,shTb b → shL l → okC b l c = true → jqU brC b k l c = some (bif ((cellX b l c).toList == []) then .cv (.pv .nils) else .cv (.dls 4 75 1 (encC (chI k b l c))),[]) := fun b l hb hl ho => by
   have tree := joa b k l c
   revert tree; try delta zzaw0; intro tree
   have i1 := jaA hb
   have a1 := jai b
   have i2 := jaj hl
   have a2 := jaf l
   simp only [isTb,asTb,isL,asL,i1,a1,i2,a2,ho,Bool.and_true,Bool.true_and] at tree
   unfold chI
   cases he : ((cellX b l c).toList == []) with
   | true => rw [he] at tree; exact tree.trans rfl
   | false =>
    rw [he] at tree
    obtain ⟨x,t,rfl⟩ := jox ho
    rw [dT (show (0 : Int) < ((x :: t).length : Int) by rw [nqH]; omega)] at tree
    exact tree.trans rfl
  rcases pick2 h with ⟨hc,he⟩ | ⟨hn,hc,he⟩
  ·cases he
   obtain ⟨hc,g3⟩ := andE hc
   obtain ⟨hc,g2⟩ := andE hc
   obtain ⟨g0,g1⟩ := andE hc
   obtain ⟨b,rfl,h_b⟩ := jap g0
   obtain ⟨l,rfl,h_l⟩ := jae g1
   have e_b : asTb (pTb b) = b := jai b
   have e_l : asL (pL l) = l := jaf l
   rw [e_b,e_l] at g2 g3
   refine (key b l h_b h_l g2).trans ?_
   rw [g3]
   rfl
  ·cases he
   rw [hc,Bool.true_and] at hn
   obtain ⟨hc,g2⟩ := andE hc
   obtain ⟨g0,g1⟩ := andE hc
   obtain ⟨b,rfl,h_b⟩ := jap g0
   obtain ⟨l,rfl,h_l⟩ := jae g1
   have e_b : asTb (pTb b) = b := jai b
   have e_l : asL (pL l) = l := jaf l
   rw [e_b,e_l] at g2 hn ⊢
   refine (key b l h_b h_l g2).trans ?_
   rw [hn]
   rfl
 ·cases h
theorem jsS : jab Tryz.prog 67 E_inode := ⟨jff.1,fun ivs res bxs h => by
 unfold E_inode at h
 split at h
 ·rename_i p k q c
  obtain ⟨hc,he⟩ := pick1 h
  cases he
  cases hx : ((cellX (asTb p) (asL q) c).toList == []) with
  | true =>
   have e : chI k (asTb p) (asL q) c = [] := by unfold chI; rw [hx]; rfl
   rw [e]
   exact jii (jff.2 _ _ _ (by unfold E_inode0; dsimp only; rw [hc,hx]; rfl))
  | false =>
   have e : (chI k (asTb p) (asL q) c).length = 1 := by unfold chI; rw [hx]; rfl
   rw [e]
   exact jff.2 _ _ _ (by unfold E_inode0; dsimp only; rw [hc,hx]; rfl)
 ·cases h⟩
theorem jhg (k : Int) (b : TblT) (l : List ByteArray) (c : ByteArray) : (chI k b l c).length ≤ 1 := by
 unfold chI
 cases ((cellX b l c).toList == [])
 ·exact Nat.le_refl _
 ·exact Nat.zero_le _
theorem jdE (k : Int) (b : TblT) (l : List ByteArray) : ∀ cs : List ByteArray,(chIs k b l cs).length ≤ cs.length
 | [] => Nat.le_refl _
 | c :: cs => by
  have h1 := jhg k b l c
  have h2 := jdE k b l cs
  show (chI k b l c ++ chIs k b l cs).length ≤ _
  rw [nqG,nqH]
  omega
theorem jup : jad Tryz.prog sgb2 := ⟨jsS,jrw⟩
theorem jpY (kd : Int) (b : TblT) (l cs : List ByteArray) (hb : shTb b) (hl : shL l) (hcs : shL cs) (ho : cs.all (okC b l) = true) : ∀ (m i : Nat) (u : List ChT),m + i = cs.length → u.length ≤ i →
  LoopsTo (rdB brC Tryz.prog sgb2 jg2 jgA Tryz.f81 3 []) [aI kd,bxTb 3 b,bxRw 5 l,aCd 7 u.length (encC u),aP (pL cs),aI cs.length,aI i] (.exit 0,[aCd 7 (u ++ chIs kd b l (cs.drop i)).length (encC (u ++ chIs kd b l (cs.drop i)))]) := by
 have hlen := hcs.1
 intro m
 induction m with
 | zero =>
  intro i u hm hu
  rw [List.drop_eq_nil_of_le (show cs.length ≤ i by omega),show chIs kd b l [] = [] from rfl,List.append_nil]
  refine .done _ _ ((jiz kd b l cs i u).trans ?_)
  try delta zzay0
  rw [dF (by omega)]
  rfl
 | succ m ih =>
  intro i u hm hu
  have hi : i < cs.length := by omega
  have tree := jiz kd b l cs i u
  revert tree; try delta zzay0; intro tree
  have hc := List.all_eq_true.1 ho _ (List.getElem_mem hi)
  have i1 := jaA hb
  have a1 := jai b
  have i2 := jaj hl
  have a2 := jaf l
  have hk := jhg kd b l cs[i]
  have hq : (u ++ chI kd b l cs[i]).length ≤ 1048577 := by rw [nqG]; omega
  simp (disch := omega) only [isTb,asTb,isL,asL,i1,a1,i2,a2,dT,nqF,jao cs i hi,nqH,List.headD_cons,PV.isStr,PV.asStr,blt0,hc,wrap1,← jdP,← nqG,Bool.and_true,Bool.true_and] at tree
  have := ih (i + 1) (u ++ chI kd b l cs[i]) (by omega) (by rw [nqG]; omega)
  rw [nqK hi,show chIs kd b l (cs[i] :: cs.drop (i + 1)) = chI kd b l cs[i] ++ chIs kd b l (cs.drop (i + 1)) from rfl,← List.append_assoc]
  exact .step _ _ _ tree this
theorem jow : ∀ b ∈ jar (jaM Tryz.f81),jaO Tryz.prog (tabL sgb2) (OL jg2) Tryz.f81.ntmps (pbOf []) jgA b := by
 refine jas 3 (by kernel_rfl) (by kernel_rfl) (by kernel_rfl) ?_
 intro ls e ls' hl
 replace hl : pickA (jit ls) = some (e,ls') := hl
 unfold jit at hl
 split at hl
 ·rename_i kd x s g q r y v z e p n i
  rcases pick2 hl with ⟨hc,he⟩ | ⟨hn,hc,he⟩
  ·cases he
   obtain ⟨hc,g9⟩ := andE hc
   obtain ⟨hc,g8⟩ := andE hc
   obtain ⟨hc,g7⟩ := andE hc
   obtain ⟨hc,g6⟩ := andE hc
   obtain ⟨hc,g5⟩ := andE hc
   obtain ⟨hc,g4⟩ := andE hc
   obtain ⟨hc,g3⟩ := andE hc
   obtain ⟨hc,g2⟩ := andE hc
   obtain ⟨g0,g1⟩ := andE hc
   obtain ⟨b,rfl,rfl,rfl,rfl,hb⟩ := jbj g0
   obtain ⟨l,rfl,h_l⟩ := jae g1
   obtain ⟨cs,rfl,h_cs⟩ := jae g2
   have e_cs : asL (pL cs) = cs := jaf cs
   rw [e_cs] at g7 g9
   obtain rfl := nqB g3
   obtain rfl := nqB g4
   obtain rfl := nqB g5
   obtain rfl := nqB g6
   obtain rfl := eq_of_beq g7
   obtain rfl := eq_of_beq g8
   have hz : cs.length = 0 := nqB g9
   refine .done _ _ ((jjO kd b l cs 0).trans ?_)
   try delta zzaz0
   rw [dF (by omega)]
   rfl
  ·cases he
   obtain ⟨hc,g9⟩ := andE hc
   rw [hc,Bool.true_and] at hn
   obtain ⟨hc,g8⟩ := andE hc
   obtain ⟨hc,g7⟩ := andE hc
   obtain ⟨hc,g6⟩ := andE hc
   obtain ⟨hc,g5⟩ := andE hc
   obtain ⟨hc,g4⟩ := andE hc
   obtain ⟨hc,g3⟩ := andE hc
   obtain ⟨hc,g2⟩ := andE hc
   obtain ⟨g0,g1⟩ := andE hc
   obtain ⟨b,rfl,rfl,rfl,rfl,hb⟩ := jbj g0
   obtain ⟨l,rfl,h_l⟩ := jae g1
   obtain ⟨cs,rfl,h_cs⟩ := jae g2
   have e_b : asTb (PV.agg [PV.str b.name,PV.str b.glob,pL b.cols,pL b.idxs]) = b := tbA b
   have e_cs : asL (pL cs) = cs := jaf cs
   have e_l : asL (pL l) = l := jaf l
   rw [e_cs] at g7 hn
   rw [e_cs,e_b,e_l] at g9 ⊢
   obtain rfl := nqB g3
   obtain rfl := nqB g4
   obtain rfl := nqB g5
   obtain rfl := nqB g6
   obtain rfl := eq_of_beq g7
   obtain rfl := eq_of_beq g8
   match cs,h_cs,g9,hn with
   | [],_,_,hn => cases hn
   | c :: ct,h_cs,g9,hn =>
    have tree := jjO kd b l (c :: ct) 0
    revert tree; try delta zzaz0; intro tree
    have hlen := h_cs.1
    rw [nqH] at hlen
    have hc := List.all_eq_true.1 g9 c (List.mem_cons_self ..)
    have i1 := jaA hb
    have a1 := jai b
    have i2 := jaj h_l
    have a2 := jaf l
    have hk := jhg kd b l c
    have d0 := jao (c :: ct) 0 (by rw [nqH]; omega)
    have w0 : IntKind.wrap .i64 (0 + 1) = 1 := rfl
    simp (disch := omega) only [isTb,asTb,isL,asL,i1,a1,i2,a2,dT,d0,Nat.zero_add,List.nil_append,show Int.toNat 0 = 0 from rfl,List.getElem_cons_zero,nqH,List.headD_cons,PV.isStr,PV.asStr,blt0,hc,w0,Bool.and_true,Bool.true_and] at tree
    have := jpY kd b l (c :: ct) hb h_l h_cs g9 ct.length 1 (chI kd b l c) (by rw [nqH]) hk
    exact .step _ _ _ tree this
 ·cases hl
theorem jkt : jab Tryz.prog 81 E_ins0 := jac mix jup (lp := jg2) (LO := jgA) ⟨Tryz.func81,by kernel_rfl,by kernel_rfl⟩ (by kernel_rfl) fun ivs res bxs h => by
 unfold E_ins0 at h
 split at h
 ·rename_i p k q
  refine ⟨jow,?_⟩
  have key : ∀ b l,shTb b → shL l → (Nat.beq b.idxs.length 0 = true ∨ b.idxs.all (okC b l) = true) → q_ins brC b k l = some (bif Nat.beq b.idxs.length 0 then .cv (.lst 4 75 0 [] true) else .cv (.dls 4 75 (chIs k b l b.idxs).length (encC (chIs k b l b.idxs))),[]) := fun b l hb hl ho => by
   have tree := jr2 b k l
   have i1 := tbI hb
   have a1 := tbA b
   have i2 : isE pL shL (pL l) = true := jaj hl
   have a2 : asE pL (pL l) = l := jaf l
   have i3 : isE pL shL (pL b.idxs) = true := jaj hb.2.2.2
   have a3 : asE pL (pL b.idxs) = b.idxs := jaf b.idxs
   simp only [isTb,asTb] at i1 a1
   simp only [isTb,asTb,isL,asL,i1,a1,i2,a2,i3,a3,Nat.beq_refl,beq_self_eq_true,Bool.and_true,Bool.true_and] at tree
   cases hz : Nat.beq b.idxs.length 0 with
   | true => rw [hz] at tree; exact tree.trans rfl
   | false =>
    rcases ho with h | h
    ·rw [hz] at h; cases h
    ·rw [hz,h] at tree
     exact tree.trans rfl
  rcases pick2 h with ⟨hc,he⟩ | ⟨hn,hc,he⟩
  ·cases he
   obtain ⟨hc,g2⟩ := andE hc
   obtain ⟨g0,g1⟩ := andE hc
   obtain ⟨b,rfl,h_b⟩ := jap g0
   obtain ⟨l,rfl,h_l⟩ := jae g1
   have e_b : asTb (pTb b) = b := jai b
   rw [e_b] at g2
   refine (key b l h_b h_l (.inl g2)).trans ?_
   rw [g2]
   rfl
  ·cases he
   obtain ⟨hc,g2⟩ := andE hc
   rw [hc,Bool.true_and] at hn
   obtain ⟨g0,g1⟩ := andE hc
   obtain ⟨b,rfl,h_b⟩ := jap g0
   obtain ⟨l,rfl,h_l⟩ := jae g1
   have e_b : asTb (pTb b) = b := jai b
   have e_l : asL (pL l) = l := jaf l
   rw [e_b,e_l] at g2
   rw [e_b] at hn
   rw [e_b,e_l]
   refine (key b l h_b h_l (.inr g2)).trans ?_
   rw [hn]
   rfl
 ·cases h
theorem jvZ : jab Tryz.prog 81 E_ins := ⟨jkt.1,fun ivs res bxs h => by
 unfold E_ins at h
 split at h
 ·rename_i p k q
  obtain ⟨hc,he⟩ := pick1 h
  cases he
  cases hx : Nat.beq (asTb p).idxs.length 0 with
  | true =>
   obtain ⟨hc,_⟩ := andE hc
   have e : (asTb p).idxs = [] := List.length_eq_zero_iff.1 (nqB hx)
   rw [e]
   exact jdw (jkt.2 _ _ _ (by unfold E_ins0; dsimp only; rw [hc,hx]; rfl))
  | false => exact jkt.2 _ _ _ (by unfold E_ins0; dsimp only; rw [hc,hx,Bool.and_false]; rfl)
 ·cases h⟩
theorem jrZ (b : TblT) {k v : ByteArray} (hk : k.size ≤ 50000) (hv : v.size ≤ 50000) : shL (jax b k v) := by
 rw [jcc]
 have hsh := joI hv
 split
 ·refine ⟨?_,fun u hu => ?_⟩
  ·have h4 := (jdy (datas (cutV v))).1
   rw [(jcb v).1,List.length_map] at h4
   have hq : v.data.toList.length = v.size := by rw [Array.length_toList]; rfl
   rw [nqH]
   omega
  ·rcases List.mem_cons.1 hu with rfl | hu
   ·omega
   ·exact hsh.2 u hu
 ·exact ⟨by simp,fun u hu => by rw [List.mem_singleton.1 hu]; omega⟩
theorem joK (cols : List ByteArray) : ∀ (is : List ByteArray) (a : Int),0 ≤ a → idxB cols is a = true → ∀ c ∈ is,0 ≤ posS cols c
 | [],_,_,_,_,h => by cases h
 | x :: r,a,ha,h,c,hc => by
  unfold idxB at h
  rw [nqE,decide_eq_true_eq] at h
  rcases List.mem_cons.1 hc with rfl | hc
  ·omega
  ·exact joK cols r _ (by omega) h.2 c hc
theorem jvH {b : TblT} {l : List ByteArray} (h : tblB b = true) (hl : l.length = b.cols.length) : b.idxs.all (okC b l) = true := by
 unfold tblB at h
 have hi := (andE h).2
 refine List.all_eq_true.2 fun c hc => ?_
 have h1 := joK b.cols b.idxs 0 (by omega) hi c hc
 have h2 := (jqA b.cols c).1
 unfold okC
 rw [dT h1,dT (show posS b.cols c < (l.length : Int) by omega)]
 rfl
theorem jvS : jad Tryz.prog sgs0 := ⟨jmC,trivial⟩
theorem jxh : jab Tryz.prog 49 E_lix := jbp mix jvS (lp := []) (LO := LO0) ⟨Tryz.func49,by kernel_rfl,by kernel_rfl⟩ (by kernel_rfl) fun ivs res bxs h => by
 unfold E_lix at h
 split at h
 ·rename_i p q c k
  obtain ⟨hc,he⟩ := pick1 h
  cases he
  obtain ⟨hc,g2⟩ := andE hc
  obtain ⟨g0,g1⟩ := andE hc
  obtain ⟨b,rfl,h_b⟩ := jap g0
  obtain ⟨l,rfl,h_l⟩ := jae g1
  have e_b : asTb (pTb b) = b := jai b
  have e_l : asL (pL l) = l := jaf l
  rw [e_b,e_l] at g2 ⊢
  refine ⟨jaq (by kernel_rfl),?_⟩
  obtain ⟨x,t,hxt⟩ := jox g2
  obtain ⟨n,hz,hn,hx⟩ := jj7 g2
  have tree := jsL b l c k
  have iC := jaj h_b.2.2.1
  have aC := jaf b.cols
  rw [List.getD_eq_getElem?_getD,List.getElem?_eq_getElem hn] at hx
  have hx : cellX b l c = l[n] := hx
  simp (disch := omega) only [isL,asL,iC,aC,hz,dT,nqF,jao l n hn,← hx,nqH,List.headD_cons,PV.isStr,PV.asStr,blt0,Bool.and_true,Bool.true_and] at tree
  unfold chI
  cases he : ((cellX b l c).toList == []) with
  | true => rw [he] at tree; exact ⟨_,tree,rfl,rfl⟩
  | false =>
   rw [he] at tree
   subst hxt
   exact ⟨_,tree,rfl,rfl⟩
 ·cases h
end
section
open Go.RowKit
def pkV (l : List ByteArray) : ByteArray := Classical.choose (⟨_,rfl⟩ : ∃ x,x = bs (packL l))
theorem jtq (l : List ByteArray) : pkV l = bs (packL l) := Classical.choose_spec (⟨_,rfl⟩ : ∃ x,x = bs (packL l))
def allS (cs : List ByteArray) : Bool := cs.all fun x => decide (x.size ≤ 20)
def insX (b : TblT) (l : List ByteArray) : List ChT := Classical.choose (⟨_,rfl⟩ : ∃ x,x = (⟨1,b.glob,[⟨#[114]⟩,fstS l],pkV l⟩ : ChT) :: chIs 1 b l b.idxs)
theorem jp6 (b : TblT) (l : List ByteArray) : insX b l = (⟨1,b.glob,[⟨#[114]⟩,fstS l],pkV l⟩ : ChT) :: chIs 1 b l b.idxs := Classical.choose_spec (⟨_,rfl⟩ : ∃ x,x = (⟨1,b.glob,[⟨#[114]⟩,fstS l],pkV l⟩ : ChT) :: chIs 1 b l b.idxs)
abbrev lp_Pk : List (Nat × List Nat × List Nat) := [(3,[1,3,4],[3])]
def LO_Pk : LoopT := fun _ ls => match ls with
 | [(.ptr x 0,some (.box [.pv p])),(.pv (.str t),none),(.pv (.int .i64 i),none)] =>
  [(isL p && Nat.beq x 4096 && (i == 1) && decide (t.size ≤ 0) && decide ((asL p).length ≤ 12) && allS (asL p),.exit 0,[aS (pkV (asL p))])]
 | _ => []
def r_Pk (br : Br) (cs : List ByteArray) (t : ByteArray) (i : Int) := rdB br Tryz.prog [] lp_Pk LO_Pk Tryz.f94 3 [] [aBx 1 [.pv (pL cs)],aS t,aI i]
def q_Pk (br : Br) (cs : List ByteArray) := evB br Tryz.prog [] lp_Pk LO_Pk Tryz.f94 [cP (.agg [pL cs])]
def E_Pk : Entry := fun ivs => match ivs with
 | [.cv (.pv (.agg [q]))] => [(isL q && decide ((asL q).length ≤ 12) && allS (asL q),cS (pkV (asL q)),[])]
 | _ => []
def sis0 : List (FuncId × Entry) := [(94,E_Pk)]
def jwe (br : Br) (b : TblT) (l : List ByteArray) := evB br Tryz.prog sis0 [] LO0 Tryz.f59 [cP (pTb b),cP (.agg [pL l])]
def E_lset : Entry := fun ivs => match ivs with
 | [.cv (.pv p),.cv (.pv (.agg [q]))] =>
  [(isTb p && isL q && decide ((asL q).length ≤ 12) && allS (asL q) && decide (1 ≤ (asL q).length),.agg [.pv (.int .i64 1),.pv (.str (asTb p).glob),.pv (.sl 2 [.str ⟨#[114]⟩,.str (fstS (asL q))]),.pv (.str (pkV (asL q)))],[])]
 | _ => []
def sis1 : List (FuncId × Entry) := (59,E_lset) :: [(49,E_lix)]
abbrev jft : List (Nat × List Nat × List Nat) := [(3,[2,3,5,6],[5])]
def jep : LoopT := fun _ ls => match ls with
 | [(.ptr x 0,some (.box [.pv (.str s),.pv (.str g),.pv q,.pv r])),(.ptr y 0,some (.box [.pv u])),(.own z,some (.lst 4 e n l false)),(.pv (.int .i64 i),none)] =>
  [(isTb (.agg [.str s,.str g,q,r]) && isL u && isCs (.sl n l) && Nat.beq x 8192 && Nat.beq y 12288 && Nat.beq z 20480 && Nat.beq e 75 && (i == 0) && (asTb (.agg [.str s,.str g,q,r])).idxs.all (okC (asTb (.agg [.str s,.str g,q,r])) (asL u)) && decide (n ≤ 1),.exit 0,[aFc 5 (asCs (.sl n l) ++ chIs 1 (asTb (.agg [.str s,.str g,q,r])) (asL u) (asTb (.agg [.str s,.str g,q,r])).idxs)])]
 | _ => []
def jwD (br : Br) (b : TblT) (l : List ByteArray) (u : List ChT) (i : Int) := rdB br Tryz.prog sis1 jft jep Tryz.f77 3 [] [bxTb 2 b,bxRw 3 l,aFc 5 u,aI i]
def jv7 (br : Br) (b : TblT) (l : List ByteArray) := evB br Tryz.prog sis1 jft jep Tryz.f77 [cP (pTb b),cP (.agg [pL l])]
def E_lins : Entry := fun ivs => match ivs with
 | [.cv (.pv p),.cv (.pv (.agg [q]))] =>
  [(isTb p && isL q && decide ((asL q).length ≤ 12) && allS (asL q) && decide (1 ≤ (asL q).length) && (asTb p).idxs.all (okC (asTb p) (asL q)),cP (pCs (insX (asTb p) (asL q))),[])]
 | _ => []
end
section
theorem jjm (b : TblT) (l : List ByteArray) (u : List ChT) (i : Int) : jwD brC b l u i = brC (decide (i < (↑b.idxs.length : Int))) (brC (decide (0 ≤ i) && decide (i < (↑b.idxs.length : Int))) (brC (Nat.blt 0 (List.length (List.drop (Int.toNat i * 1) (List.map PV.str b.idxs))) && PV.isStr (List.headD (List.drop (Int.toNat i * 1) (List.map PV.str b.idxs)) PV.nilp) && true) (brC (isTb (PV.agg [PV.str b.name,PV.str b.glob,PV.sl b.cols.length (List.map PV.str b.cols),PV.sl b.idxs.length (List.map PV.str b.idxs)]) && isL (PV.sl l.length (List.map PV.str l)) && okC (asTb (PV.agg [PV.str b.name,PV.str b.glob,PV.sl b.cols.length (List.map PV.str b.cols),PV.sl b.idxs.length (List.map PV.str b.idxs)])) (asL (PV.sl l.length (List.map PV.str l))) (PV.asStr (List.headD (List.drop (Int.toNat i * 1) (List.map PV.str b.idxs)) PV.nilp))) (brC (Nat.beq (List.length (encC (chI 1 (asTb (PV.agg [PV.str b.name,PV.str b.glob,PV.sl b.cols.length (List.map PV.str b.cols),PV.sl b.idxs.length (List.map PV.str b.idxs)])) (asL (PV.sl l.length (List.map PV.str l))) (PV.asStr (List.headD (List.drop (Int.toNat i * 1) (List.map PV.str b.idxs)) PV.nilp))))) (List.length (chI 1 (asTb (PV.agg [PV.str b.name,PV.str b.glob,PV.sl b.cols.length (List.map PV.str b.cols),PV.sl b.idxs.length (List.map PV.str b.idxs)])) (asL (PV.sl l.length (List.map PV.str l))) (PV.asStr (List.headD (List.drop (Int.toNat i * 1) (List.map PV.str b.idxs)) PV.nilp))) * 4) && (decide (List.length u + List.length (chI 1 (asTb (PV.agg [PV.str b.name,PV.str b.glob,PV.sl b.cols.length (List.map PV.str b.cols),PV.sl b.idxs.length (List.map PV.str b.idxs)])) (asL (PV.sl l.length (List.map PV.str l))) (PV.asStr (List.headD (List.drop (Int.toNat i * 1) (List.map PV.str b.idxs)) PV.nilp))) ≤ 140737488351232) && decide ((List.length u + List.length (chI 1 (asTb (PV.agg [PV.str b.name,PV.str b.glob,PV.sl b.cols.length (List.map PV.str b.cols),PV.sl b.idxs.length (List.map PV.str b.idxs)])) (asL (PV.sl l.length (List.map PV.str l))) (PV.asStr (List.headD (List.drop (Int.toNat i * 1) (List.map PV.str b.idxs)) PV.nilp)))) * 64 ≤ 140737488355328))) (some (.inl [(.ptr 8192 0,some (.box [.pv (.str b.name),.pv (.str b.glob),.pv (.sl b.cols.length (List.map PV.str b.cols)),.pv (.sl b.idxs.length (List.map PV.str b.idxs))])),(.ptr 12288 0,some (.box [.pv (.sl l.length (List.map PV.str l))])),(.own 20480,some (.lst 4 75 (List.length u + List.length (chI 1 (asTb (PV.agg [PV.str b.name,PV.str b.glob,PV.sl b.cols.length (List.map PV.str b.cols),PV.sl b.idxs.length (List.map PV.str b.idxs)])) (asL (PV.sl l.length (List.map PV.str l))) (PV.asStr (List.headD (List.drop (Int.toNat i * 1) (List.map PV.str b.idxs)) PV.nilp)))) (encC u ++ encC (chI 1 (asTb (PV.agg [PV.str b.name,PV.str b.glob,PV.sl b.cols.length (List.map PV.str b.cols),PV.sl b.idxs.length (List.map PV.str b.idxs)])) (asL (PV.sl l.length (List.map PV.str l))) (PV.asStr (List.headD (List.drop (Int.toNat i * 1) (List.map PV.str b.idxs)) PV.nilp)))) false)),(.pv (.int .i64 (IntKind.wrap .i64 (i + 1))),none)])) none) none) none) none) (some (.inr (.exit 0,[(.own 20480,some (.lst 4 75 u.length (encC u) false))]))) := by kernel_rfl
theorem jqr (b : TblT) (l : List ByteArray) : jwe brC b l = brC (decide (0 ≤ 0) && decide (0 < (↑l.length : Int))) (brC (Nat.blt 0 (List.length (List.drop 0 (List.map PV.str l))) && PV.isStr (List.headD (List.drop 0 (List.map PV.str l)) PV.nilp) && true) (brC (isL (PV.sl l.length (List.map PV.str l)) && decide (List.length (asL (PV.sl l.length (List.map PV.str l))) ≤ 12) && allS (asL (PV.sl l.length (List.map PV.str l)))) (some ((.agg [.pv (.int .i64 (Int.ofNat 1)),.pv (.str b.glob),.lst 1 9 2 [PV.str { data := #[114] },PV.str (PV.asStr (List.headD (List.drop 0 (List.map PV.str l)) PV.nilp))] false,.pv (.str (pkV (asL (PV.sl l.length (List.map PV.str l)))))],[]))) none) none) none := by kernel_rfl
theorem joq (b : TblT) (l : List ByteArray) : jv7 brC b l = brC (isTb (PV.agg [PV.str b.name,PV.str b.glob,PV.sl b.cols.length (List.map PV.str b.cols),PV.sl b.idxs.length (List.map PV.str b.idxs)]) && isL (PV.sl l.length (List.map PV.str l)) && decide (List.length (asL (PV.sl l.length (List.map PV.str l))) ≤ 12) && allS (asL (PV.sl l.length (List.map PV.str l))) && decide (1 ≤ List.length (asL (PV.sl l.length (List.map PV.str l))))) (brC (isTb (PV.agg [PV.str b.name,PV.str b.glob,pL b.cols,pL b.idxs]) && isL (pL l) && isCs (PV.sl 1 [PV.int .i64 1,PV.str (TblT.glob (asTb (PV.agg [PV.str b.name,PV.str b.glob,PV.sl b.cols.length (List.map PV.str b.cols),PV.sl b.idxs.length (List.map PV.str b.idxs)]))),PV.sl 2 [PV.str { data := #[114] },PV.str (fstS (asL (PV.sl l.length (List.map PV.str l))))],PV.str (pkV (asL (PV.sl l.length (List.map PV.str l))))]) && Nat.beq 8192 8192 && Nat.beq 12288 12288 && Nat.beq 20480 20480 && Nat.beq 75 75 && 0 == 0 && List.all (TblT.idxs (asTb (PV.agg [PV.str b.name,PV.str b.glob,pL b.cols,pL b.idxs]))) (okC (asTb (PV.agg [PV.str b.name,PV.str b.glob,pL b.cols,pL b.idxs])) (asL (pL l))) && decide (1 ≤ 1)) (some ((.cv (.lst 4 75 (List.length (asCs (PV.sl 1 [PV.int .i64 1,PV.str (TblT.glob (asTb (PV.agg [PV.str b.name,PV.str b.glob,PV.sl b.cols.length (List.map PV.str b.cols),PV.sl b.idxs.length (List.map PV.str b.idxs)]))),PV.sl 2 [PV.str { data := #[114] },PV.str (fstS (asL (PV.sl l.length (List.map PV.str l))))],PV.str (pkV (asL (PV.sl l.length (List.map PV.str l))))]) ++ chIs 1 (asTb (PV.agg [PV.str b.name,PV.str b.glob,pL b.cols,pL b.idxs])) (asL (pL l)) (TblT.idxs (asTb (PV.agg [PV.str b.name,PV.str b.glob,pL b.cols,pL b.idxs]))))) (encC (asCs (PV.sl 1 [PV.int .i64 1,PV.str (TblT.glob (asTb (PV.agg [PV.str b.name,PV.str b.glob,PV.sl b.cols.length (List.map PV.str b.cols),PV.sl b.idxs.length (List.map PV.str b.idxs)]))),PV.sl 2 [PV.str { data := #[114] },PV.str (fstS (asL (PV.sl l.length (List.map PV.str l))))],PV.str (pkV (asL (PV.sl l.length (List.map PV.str l))))]) ++ chIs 1 (asTb (PV.agg [PV.str b.name,PV.str b.glob,pL b.cols,pL b.idxs])) (asL (pL l)) (TblT.idxs (asTb (PV.agg [PV.str b.name,PV.str b.glob,pL b.cols,pL b.idxs]))))) false),[]))) none) none := by kernel_rfl
theorem jvh (cs : List ByteArray) : q_Pk brC cs = brC (isL (pL cs) && Nat.beq 4096 4096 && 1 == 1 && decide (0 ≤ 0) && decide (List.length (asL (pL cs)) ≤ 12) && allS (asL (pL cs))) (some ((.cv (.pv (.str (pkV (asL (pL cs))))),[]))) none := by kernel_rfl
theorem joL (cs : List ByteArray) (t : ByteArray) (i : Int) : r_Pk brC cs t i = brC (decide (i < (↑cs.length : Int))) (brC (decide (i > 1)) (brC (decide (ByteArray.size t + 1 ≤ 9223372036854775807) && true) (brC (decide (0 ≤ i) && decide (i < (↑cs.length : Int))) (brC (Nat.blt 0 (List.length (List.drop (Int.toNat i * 1) (List.map PV.str cs))) && PV.isStr (List.headD (List.drop (Int.toNat i * 1) (List.map PV.str cs)) PV.nilp) && true) (brC (decide (ByteArray.size (t ++ { data := #[94] }) + ByteArray.size (PV.asStr (List.headD (List.drop (Int.toNat i * 1) (List.map PV.str cs)) PV.nilp)) ≤ 9223372036854775807) && true) (some (.inl [(.ptr 4096 0,some (.box [.pv (.sl cs.length (List.map PV.str cs))])),(.pv (.str (t ++ { data := #[94] } ++ PV.asStr (List.headD (List.drop (Int.toNat i * 1) (List.map PV.str cs)) PV.nilp))),none),(.pv (.int .i64 (IntKind.wrap .i64 (i + 1))),none)])) none) none) none) none) (brC (decide (0 ≤ i) && decide (i < (↑cs.length : Int))) (brC (Nat.blt 0 (List.length (List.drop (Int.toNat i * 1) (List.map PV.str cs))) && PV.isStr (List.headD (List.drop (Int.toNat i * 1) (List.map PV.str cs)) PV.nilp) && true) (brC (decide (ByteArray.size t + ByteArray.size (PV.asStr (List.headD (List.drop (Int.toNat i * 1) (List.map PV.str cs)) PV.nilp)) ≤ 9223372036854775807) && true) (some (.inl [(.ptr 4096 0,some (.box [.pv (.sl cs.length (List.map PV.str cs))])),(.pv (.str (t ++ PV.asStr (List.headD (List.drop (Int.toNat i * 1) (List.map PV.str cs)) PV.nilp))),none),(.pv (.int .i64 (IntKind.wrap .i64 (i + 1))),none)])) none) none) none)) (some (.inr (.exit 0,[(.pv (.str t),none)]))) := by kernel_rfl
end
end
end Go.Proofs.YtbeebeamdjbkmaaGreatDoor
