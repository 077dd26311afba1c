import Derived.Test.YtbeebeamdjbkmaaGreatDoorXXg
import Derived.Test.YtbeebeamdjbkmaaGreatDoorXXe
import Derived.Test.YtbeebeamdjbkmaaGreatDoorXXf
import Derived.RangeFuncBox
import Derived.RangeFuncLeaves
import Derived.Shelf.Abstract
import Derived.WalkKit
import Derived.OwnWalkIn
import Derived.TacticsInMore
import Derived.LoopNIn
import Derived.LoopIn
import Derived.Maps.AppendAt
import Derived.Lib.SlicesCompact
import Derived.Test.YtbeebeamdjbkmaaGreatDoorSortC
import Derived.Sort.OwnSorted
import Derived.Sort.Grow
import Derived.Lib.OwnBridge
import Derived.Test.YtbeebeamdjbkmaaGreatDoorPieS
namespace Go.Proofs.YtbeebeamdjbkmaaGreatDoor
noncomputable section
set_option linter.unusedVariables false
set_option maxRecDepth 100000
set_option linter.unusedSimpArgs false
section
theorem jo4 (l : List ByteArray) (u : List ByteArray) : jxj brC l u = brC ((↑l.length : Int) != (↑u.length : Int)) (some ((.cv (.pv (.bool false)),[]))) (brC (isL (pL l) && isL (pL u) && 0 == 0 && decide (List.length (asL (pL l)) = List.length (asL (pL u))) && holds (asL (pL l) = asL (pL u))) (some ((.cv (.pv (.bool true)),[]))) (brC (isL (pL l) && isL (pL u) && 0 == 0 && decide (List.length (asL (pL l)) = List.length (asL (pL u)))) (some ((.cv (.pv (.bool false)),[]))) none)) := by kernel_rfl
theorem jgL (l : List NodeT) (u : List NodeT) (i : Int) : jun brC l u i = brC (decide (i < (↑l.length : Int))) (brC (decide (0 ≤ i) && decide (i < (↑l.length : Int))) (brC (Nat.ble 3 (List.length (List.drop (Int.toNat i * 3) (encN l))) && (PV.isStr (List.headD (List.drop (Int.toNat i * 3) (encN l)) PV.nilp) && (PV.isSl (List.headD (List.tail (List.drop (Int.toNat i * 3) (encN l))) PV.nilp) && (PV.isStr (List.headD (List.tail (List.tail (List.drop (Int.toNat i * 3) (encN l)))) PV.nilp) && true && true) && true) && true) && true) (brC (decide (0 ≤ i) && decide (i < (↑u.length : Int))) (brC (Nat.ble 3 (List.length (List.drop (Int.toNat i * 3) (encN u))) && (PV.isStr (List.headD (List.drop (Int.toNat i * 3) (encN u)) PV.nilp) && (PV.isSl (List.headD (List.tail (List.drop (Int.toNat i * 3) (encN u))) PV.nilp) && (PV.isStr (List.headD (List.tail (List.tail (List.drop (Int.toNat i * 3) (encN u)))) PV.nilp) && true && true) && true) && true) && true) (brC (isN (PV.agg [PV.str (PV.asStr (List.headD (List.drop (Int.toNat i * 3) (encN l)) PV.nilp)),PV.sl (PV.slN (List.headD (List.tail (List.drop (Int.toNat i * 3) (encN l))) PV.nilp)) (PV.slL (List.headD (List.tail (List.drop (Int.toNat i * 3) (encN l))) PV.nilp)),PV.str (PV.asStr (List.headD (List.tail (List.tail (List.drop (Int.toNat i * 3) (encN l)))) PV.nilp))]) && isN (PV.agg [PV.str (PV.asStr (List.headD (List.drop (Int.toNat i * 3) (encN u)) PV.nilp)),PV.sl (PV.slN (List.headD (List.tail (List.drop (Int.toNat i * 3) (encN u))) PV.nilp)) (PV.slL (List.headD (List.tail (List.drop (Int.toNat i * 3) (encN u))) PV.nilp)),PV.str (PV.asStr (List.headD (List.tail (List.tail (List.drop (Int.toNat i * 3) (encN u)))) PV.nilp))])) (brC (!holds (asN (PV.agg [PV.str (PV.asStr (List.headD (List.drop (Int.toNat i * 3) (encN l)) PV.nilp)),PV.sl (PV.slN (List.headD (List.tail (List.drop (Int.toNat i * 3) (encN l))) PV.nilp)) (PV.slL (List.headD (List.tail (List.drop (Int.toNat i * 3) (encN l))) PV.nilp)),PV.str (PV.asStr (List.headD (List.tail (List.tail (List.drop (Int.toNat i * 3) (encN l)))) PV.nilp))]) = asN (PV.agg [PV.str (PV.asStr (List.headD (List.drop (Int.toNat i * 3) (encN u)) PV.nilp)),PV.sl (PV.slN (List.headD (List.tail (List.drop (Int.toNat i * 3) (encN u))) PV.nilp)) (PV.slL (List.headD (List.tail (List.drop (Int.toNat i * 3) (encN u))) PV.nilp)),PV.str (PV.asStr (List.headD (List.tail (List.tail (List.drop (Int.toNat i * 3) (encN u)))) PV.nilp))]))) (some (.inr (.ret,[(.pv (.sl l.length (encN l)),none),(.pv (.bool false),none)]))) (some (.inl [(.pv (.sl l.length (encN l)),none),(.pv (.sl u.length (encN u)),none),(.pv (.int .i64 (IntKind.wrap .i64 (i + 1))),none)]))) none) none) none) none) none) (some (.inr (.exit 0,[(.pv (.sl l.length (encN l)),none),(.bad,none)]))) := by kernel_rfl
theorem jsh (l : List ByteArray) (k : Int) : q_mkS brC l k = brC (isL (PV.sl l.length (List.map PV.str l)) && Nat.beq 9 9 && Nat.beq 0 0 && 0 == 0 && decide (1 ≤ k) && holds (k ≤ 900000000)) (brC (Nat.beq (List.length (mkL k (asL (PV.sl l.length (List.map PV.str l))))) l.length) (some ((.cv (.pv (.int .i64 (k + (↑(List.length (asL (PV.sl l.length (List.map PV.str l)))) : Int)))),[[.lst 1 9 l.length (List.map PV.str (mkL k (asL (PV.sl l.length (List.map PV.str l))))) true]]))) none) none := by kernel_rfl
theorem jnu (k : Int) : jtY brC k = brC (Nat.beq 0 0 && nilB [] && 0 == 0) (some ((.cv (.pv (.int .i64 k)),[]))) none := by kernel_rfl
theorem jsj (l : List ByteArray) (k : Int) : q_hdS brC l k = brC (isL (pL l) && 0 == 0 && decide (1 ≤ k) && holds (k ≤ 900000000) && holds (asL (pL l) = mkL k (asL (pL l)))) (some ((.cv (.pv (.int .i64 (k + (↑(List.length (asL (pL l))) : Int)))),[]))) none := by kernel_rfl
theorem jrL (k : Int) : q_mkT brC k = brC (decide (k ≤ 0)) (some ((.cv (.pv (.str { data := #[109,48] })),[]))) (brC (decide (0 ≤ k) && holds (k ≤ 1000000000) && Nat.beq 0 0) (brC (decide (1 + ByteArray.size (hidS (bs (digL 20 (Int.toNat k) []))) ≤ 9223372036854775807) && true) (some ((.cv (.pv (.str ({ data := #[109] } ++ hidS (bs (digL 20 (Int.toNat k) []))))),[]))) none) none) := by kernel_rfl
theorem jmZ (k : Int) : ju4 brC k = brC (Nat.beq 70 70 && Nat.beq 0 0 && Nat.beq 0 0 && nilB [] && 0 == 0) (some ((.cv (.pv (.int .i64 k)),[[.lst 3 70 0 [] true]]))) none := by kernel_rfl
theorem jnZ (l : List NodeT) (u : List NodeT) : jt8 brC l u = brC ((↑l.length : Int) != (↑u.length : Int)) (some ((.cv (.pv (.bool false)),[]))) (brC (isNs (pNs l) && isNs (pNs u) && 0 == 0 && decide (List.length (asNs (pNs l)) = List.length (asNs (pNs u))) && holds (asNs (pNs l) = asNs (pNs u))) (some ((.cv (.pv (.bool true)),[]))) (brC (isNs (pNs l) && isNs (pNs u) && 0 == 0 && decide (List.length (asNs (pNs l)) = List.length (asNs (pNs u)))) (some ((.cv (.pv (.bool false)),[]))) none)) := by kernel_rfl
theorem jqv (k : Int) : jwF brC k = brC (Nat.beq 0 0 && nilB [] && 0 == 0) (some ((.cv (.pv (.int .i64 k)),[]))) none := by kernel_rfl
theorem jnE (k : Int) (i : Int) : juL brC k i = brC (decide (i < (↑0 : Int))) (brC (decide (1 ≤ k) && holds (k ≤ 1000000000)) (brC (decide (0 ≤ i) && decide (i < (↑0 : Int))) none none) none) (some (.inr (.exit 0,[(.pv (.sl 0 []),none),(.pv (.int .i64 k),none)]))) := by kernel_rfl
theorem jnj (k : Int) (i : Int) : juP brC k i = brC (decide (i < (↑0 : Int))) (brC (decide (1 ≤ k) && holds (k ≤ 1000000000)) (brC (decide (0 ≤ i) && decide (i < (↑0 : Int))) none none) none) (some (.inr (.exit 0,[(.own 0,some (.lst 3 70 0 [] true)),(.pv (.int .i64 k),none)]))) := by kernel_rfl
theorem jhQ (k : Int) (s : ByteArray) : r_mkT brC k s = brC (decide (k > 0)) (brC (decide (ByteArray.size { data := #[UInt8.ofNat (Int.toNat (IntKind.wrap .u8 (IntKind.wrap .i64 (48 + Int.tmod k 10))))] } + ByteArray.size s ≤ 9223372036854775807) && true) (some (.inl [(.pv (.int .i64 (IntKind.wrap .i64 (Int.tdiv k 10))),none),(.pv (.str ({ data := #[UInt8.ofNat (Int.toNat (IntKind.wrap .u8 (IntKind.wrap .i64 (48 + Int.tmod k 10))))] } ++ s)),none)])) none) (some (.inr (.exit 0,[(.pv (.int .i64 k),none),(.pv (.str s),none)]))) := by kernel_rfl
theorem jrn (k : Int) (i : Int) : jwM brC k i = brC (decide (i < (↑0 : Int))) (brC (decide (1 ≤ k) && holds (k ≤ 1000000000)) (brC (decide (0 ≤ i) && decide (i < (↑0 : Int))) none none) none) (some (.inr (.exit 0,[(.pv (.sl 0 []),none),(.pv (.int .i64 k),none)]))) := by kernel_rfl
theorem jmB (l : List ByteArray) (k : Int) (i : Int) : r_hdS brC l k i = brC (decide (i < (↑l.length : Int))) (brC (decide (0 ≤ i) && decide (i < (↑l.length : Int))) (brC (Nat.blt 0 (List.length (List.drop (Int.toNat i * 1) (List.map PV.str l))) && PV.isStr (List.headD (List.drop (Int.toNat i * 1) (List.map PV.str l)) PV.nilp) && true) (brC (decide (1 ≤ k) && holds (k ≤ 1000000000)) (brC (!ByteArray.toList (PV.asStr (List.headD (List.drop (Int.toNat i * 1) (List.map PV.str l)) PV.nilp)) == ByteArray.toList (mkV k)) (some (.inr (.ret,[(.pv (.int .i64 k),none)]))) (some (.inl [(.pv (.sl l.length (List.map PV.str l)),none),(.pv (.int .i64 (IntKind.wrap .i64 (k + 1))),none),(.pv (.int .i64 (IntKind.wrap .i64 (i + 1))),none)]))) none) none) none) (some (.inr (.exit 0,[(.pv (.int .i64 k),none)]))) := by kernel_rfl
theorem ji8 (l : List ByteArray) (u : List ByteArray) (i : Int) : jwn brC l u i = brC (decide (i < (↑l.length : Int))) (brC (decide (0 ≤ i) && decide (i < (↑l.length : Int))) (brC (Nat.blt 0 (List.length (List.drop (Int.toNat i * 1) (List.map PV.str l))) && PV.isStr (List.headD (List.drop (Int.toNat i * 1) (List.map PV.str l)) PV.nilp) && true) (brC (decide (0 ≤ i) && decide (i < (↑u.length : Int))) (brC (Nat.blt 0 (List.length (List.drop (Int.toNat i * 1) (List.map PV.str u))) && PV.isStr (List.headD (List.drop (Int.toNat i * 1) (List.map PV.str u)) PV.nilp) && true) (brC (!ByteArray.toList (PV.asStr (List.headD (List.drop (Int.toNat i * 1) (List.map PV.str l)) PV.nilp)) == ByteArray.toList (PV.asStr (List.headD (List.drop (Int.toNat i * 1) (List.map PV.str u)) PV.nilp))) (some (.inr (.ret,[(.pv (.sl l.length (List.map PV.str l)),none),(.pv (.bool false),none)]))) (some (.inl [(.pv (.sl l.length (List.map PV.str l)),none),(.pv (.sl u.length (List.map PV.str u)),none),(.pv (.int .i64 (IntKind.wrap .i64 (i + 1))),none)]))) none) none) none) none) (some (.inr (.exit 0,[(.pv (.sl l.length (List.map PV.str l)),none),(.bad,none)]))) := by kernel_rfl
theorem jq6 (x : NodeT) (y : NodeT) : jxu brC x y = brC (!ByteArray.toList x.name == ByteArray.toList y.name) (some ((.cv (.pv (.bool false)),[]))) (brC (isL (PV.sl x.subs.length (List.map PV.str x.subs)) && isL (PV.sl y.subs.length (List.map PV.str y.subs))) (brC (!holds (asL (PV.sl x.subs.length (List.map PV.str x.subs)) = asL (PV.sl y.subs.length (List.map PV.str y.subs)))) (some ((.cv (.pv (.bool false)),[]))) (brC (!ByteArray.toList x.value == ByteArray.toList y.value) (some ((.cv (.pv (.bool false)),[]))) (some ((.cv (.pv (.bool true)),[]))))) none) := by kernel_rfl
theorem jmk (l : List ByteArray) (k : Int) (i : Int) : r_mkS brC l k i = brC (decide (i < (↑l.length : Int))) (brC (decide (1 ≤ k) && holds (k ≤ 1000000000)) (brC (decide (0 ≤ i) && decide (i < (↑l.length : Int))) (brC (Nat.beq (List.length [PV.str (mkV k)]) 1 && Nat.ble (Int.toNat i * 1 + 1) (List.length (List.map PV.str l))) (some (.inl [(.own 0,some (.lst 1 9 l.length (List.take (Int.toNat i * 1) (List.map PV.str l) ++ [PV.str (mkV k)] ++ List.drop (Int.toNat i * 1 + 1) (List.map PV.str l)) true)),(.pv (.int .i64 (IntKind.wrap .i64 (k + 1))),none),(.pv (.int .i64 (IntKind.wrap .i64 (i + 1))),none)])) none) none) none) (some (.inr (.exit 0,[(.own 0,some (.lst 1 9 l.length (List.map PV.str l) true)),(.pv (.int .i64 k),none)]))) := by kernel_rfl
theorem jrj (n : Nat) (l : List PV) (k : Int) : jwh brC n l k = brC (isNs (PV.sl n l) && Nat.beq (70 + 2000000 - 2000000) 70 && Nat.beq 0 0 && 0 == 0 && decide (1 ≤ k) && holds (k ≤ 100000000) && holds (mkNdE k (asNs (PV.sl n l)) ≤ 800000000)) (brC (Nat.beq n n) (some ((.cv (.pv (.int .i64 (mkNdE k (asNs (PV.sl n l))))),[[.dls 3 70 n (encN (mkNds k (asNs (PV.sl n l))))]]))) none) none := by kernel_rfl
def zzae0 (n : Nat) (l : List PV) (k : Int) (i : Int) := (List.headD (List.drop (Int.toNat i * 3 + 1) (List.take (Int.toNat i * 3 + 0) l ++ [PV.str (mkV k)] ++ List.drop (Int.toNat i * 3 + 0 + 1) l)) PV.nilp)
def zzae1 (n : Nat) (l : List PV) (k : Int) (i : Int) := (List.take (Int.toNat i * 3 + 1) (List.take (Int.toNat i * 3 + 0) l ++ [PV.str (mkV k)] ++ List.drop (Int.toNat i * 3 + 0 + 1) l) ++ [PV.sl (PV.slN (zzae0 n l k i)) (List.map PV.str (mkL (IntKind.wrap .i64 (k + 1)) (asL (PV.sl (PV.slN (zzae0 n l k i)) (PV.slL (zzae0 n l k i))))))] ++ List.drop (Int.toNat i * 3 + 1 + 1) (List.take (Int.toNat i * 3 + 0) l ++ [PV.str (mkV k)] ++ List.drop (Int.toNat i * 3 + 0 + 1) l))
theorem jiX (n : Nat) (l : List PV) (k : Int) (i : Int) : jwV brC n l k i = brC (decide (i < (↑n : Int))) (brC (decide (1 ≤ k) && holds (k ≤ 1000000000)) (brC (decide (0 ≤ i) && decide (i < (↑n : Int))) (brC (Nat.ble (Int.toNat i * 3 + 0 + 1) l.length && noKid 70 3 (Int.toNat i * 3 + 0)) (brC (decide (0 ≤ i) && decide (i < (↑n : Int))) (brC (Nat.blt (Int.toNat i * 3 + 1) (List.length (List.take (Int.toNat i * 3 + 0) l ++ [PV.str (mkV k)] ++ List.drop (Int.toNat i * 3 + 0 + 1) l)) && (PV.isSl (zzae0 n l k i) && isKid 70 3 (Int.toNat i * 3 + 1) 1 9)) (brC (isL (PV.sl (PV.slN (zzae0 n l k i)) (PV.slL (zzae0 n l k i))) && Nat.beq 9 9 && decide (1 ≤ IntKind.wrap .i64 (k + 1)) && holds (IntKind.wrap .i64 (k + 1) ≤ 900000000)) (brC (decide (1 ≤ IntKind.wrap .i64 (k + 1) + (↑(List.length (asL (PV.sl (PV.slN (zzae0 n l k i)) (PV.slL (zzae0 n l k i))))) : Int)) && holds (IntKind.wrap .i64 (k + 1) + (↑(List.length (asL (PV.sl (PV.slN (zzae0 n l k i)) (PV.slL (zzae0 n l k i))))) : Int) ≤ 1000000000)) (brC (decide (0 ≤ i) && decide (i < (↑n : Int))) (brC (Nat.ble (Int.toNat i * 3 + 2 + 1) (List.length (zzae1 n l k i)) && noKid 70 3 (Int.toNat i * 3 + 2)) (some (.inl [(.own 0,some (.dls 3 70 n (List.take (Int.toNat i * 3 + 2) (zzae1 n l k i) ++ [PV.str (mkV (IntKind.wrap .i64 (k + 1) + (↑(List.length (asL (PV.sl (PV.slN (zzae0 n l k i)) (PV.slL (zzae0 n l k i))))) : Int)))] ++ List.drop (Int.toNat i * 3 + 2 + 1) (zzae1 n l k i)) true none)),(.pv (.int .i64 (IntKind.wrap .i64 (IntKind.wrap .i64 (k + 1) + (↑(List.length (asL (PV.sl (PV.slN (zzae0 n l k i)) (PV.slL (zzae0 n l k i))))) : Int) + 1))),none),(.pv (.int .i64 (IntKind.wrap .i64 (i + 1))),none)])) none) none) none) none) none) none) none) none) none) (some (.inr (.exit 0,[(.own 0,some (.dls 3 70 n l true none)),(.pv (.int .i64 k),none)]))) := by kernel_rfl
end
section
open Go.RowKit
theorem jj9 (l : List UInt8) : (bs l).data.toList = l := by show l.toArray.toList = l; simp
theorem jfX (a b : List UInt8) : bs a ++ bs b = bs (a ++ b) := by
 apply ByteArray.ext
 apply Array.ext'
 show (bs a ++ bs b).data.toList = _
 rw [ByteArray.data_append,Array.toList_append,jj9,jj9]
 exact (jj9 _).symm
theorem ji7 {t : ByteArray} (h : t.size = 0) : t = ⟨#[]⟩ := by
 have : t.data.toList = [] := List.length_eq_zero_iff.1 (by rw [← jam]; exact h)
 rw [← jbT t,this]
 rfl
theorem u8w (n : Nat) : IntKind.wrap .u8 (n : Int) = (((UInt8.ofNat n).toNat : Nat) : Int) := by
 have e : IntKind.wrap .u8 (n : Int) = (n : Int) % 256 := by unfold IntKind.wrap; rfl
 rw [e,UInt8.toNat_ofNat']
 omega
theorem jwy (k : Nat) : Int.tmod (k : Int) 10 = ((k % 10 : Nat) : Int) := rfl
theorem jwP (k : Nat) : Int.tdiv (k : Int) 10 = ((k / 10 : Nat) : Int) := rfl
theorem js7 : ∀ (f k : Nat) (l : List UInt8),k < 10 ^ f → k ≤ 1000000000 → l.length + f ≤ 100 → LoopsTo (rdB brC Tryz.prog [] jlt jmE Tryz.f71 4 []) [aI k,aS (bs l)] (.exit 0,[aI 0,aS (bs (digL f k l))]) := by
 intro f
 induction f with
 | zero =>
  intro k l hk _ _
  obtain rfl : k = 0 := by simpa using hk
  refine .done _ _ ((jhQ _ _).trans ?_)
  rw [dF (by omega)]
  rfl
 | succ f ih =>
  intro k l hk hk2 hl
  unfold digL
  by_cases h0 : k = 0
  ·subst h0
   rw [if_pos rfl]
   refine .done _ _ ((jhQ _ _).trans ?_)
   rw [dF (by omega)]
   rfl
  ·rw [if_neg h0]
   have tree := jhQ (k : Int) (bs l)
   have w1 : IntKind.wrap .i64 (48 + ((k % 10 : Nat) : Int)) = ((48 + k % 10 : Nat) : Int) := by rw [wrapI (by omega) (by omega)]; omega
   have w2 : IntKind.wrap .i64 ((k / 10 : Nat) : Int) = ((k / 10 : Nat) : Int) := wrapI (by omega) (by omega)
   rw [jwy,jwP,w1,w2,u8w,nqF,UInt8.ofNat_toNat] at tree
   generalize hc : UInt8.ofNat (48 + k % 10) = c at tree ⊢
   have e1 : ({ data := #[c] } : ByteArray) ++ bs l = bs (c :: l) := jfX [c] l
   have e2 : ({ data := #[c] } : ByteArray).size = 1 := rfl
   have e3 : (bs l).size = l.length := jmc l
   rw [e1,e2,e3,dT (show (k : Int) > 0 by omega),dT (show 1 + l.length ≤ 9223372036854775807 by omega)] at tree
   have := ih (k / 10) (c :: l) (by rw [Nat.pow_succ] at hk; omega) (by omega) (by rw [nqH]; omega)
   exact .step _ _ _ tree this
theorem jhm : ∀ (f k : Nat) (l : List UInt8),(digL f k l).length ≤ l.length + f
 | 0,k,l => Nat.le_refl _
 | f + 1,k,l => by
  unfold digL
  split
  ·omega
  ·have := jhm f (k / 10) (UInt8.ofNat (48 + k % 10) :: l)
   rw [nqH] at this
   omega
theorem jtu (k : Int) : mkV k = bs (109 :: digL 20 k.toNat []) := jhF _
theorem jhn (k : Int) : (mkV k).size ≤ 21 := by
 rw [jtu,jmc,nqH]
 have := jhm 20 k.toNat []
 rw [List.length_nil] at this
 omega
theorem jqo : jab Tryz.prog 71 E_mkT := jac mix (tab := []) trivial (lp := jlt) (LO := jmE) ⟨Tryz.func71,by kernel_rfl,by kernel_rfl⟩ (by kernel_rfl) fun ivs res bxs h => by
 unfold E_mkT at h
 split at h
 ·rename_i k
  obtain ⟨hc,he⟩ := pick1 h
  cases he
  obtain ⟨k0,k1⟩ := andE hc
  have k0 := nqI k0
  refine ⟨jas 4 (by kernel_rfl) (by kernel_rfl) (by kernel_rfl) ?_,(jrL k).trans ?_⟩
  ·intro ls e ls' hl
   replace hl : pickA (jhx ls) = some (e,ls') := hl
   unfold jhx at hl
   split at hl
   ·rename_i k s
    obtain ⟨hc,he⟩ := pick1 hl
    cases he
    obtain ⟨hc,g2⟩ := andE hc
    obtain ⟨g0,g1⟩ := andE hc
    have g0 := nqI g0
    have g1 := jan g1
    obtain ⟨m,rfl⟩ : ∃ m : Nat,k = (m : Int) := ⟨k.toNat,by omega⟩
    rw [ji7 (nqB g2),jhF,nqF]
    exact js7 20 m [] (Nat.lt_of_le_of_lt (show m ≤ 1000000000 by omega) (by decide)) (by omega) (by decide)
   ·cases hl
  ·have hz : (hidS (bs (digL 20 k.toNat []))).size ≤ 20 := by
    rw [jhF,jmc]
    have := jhm 20 k.toNat []
    rw [List.length_nil] at this
    omega
   rw [dF (show ¬ k ≤ 0 by omega),dT (show 0 ≤ k by omega),k1,dT (show 1 + (hidS (bs (digL 20 k.toNat []))).size ≤ 9223372036854775807 by omega),jtu]
   have e : ({ data := #[109] } : ByteArray) ++ hidS (bs (digL 20 k.toNat [])) = bs (109 :: digL 20 k.toNat []) := by rw [jhF]; exact jfX [109] _
   rw [e]
   rfl
 ·cases h
theorem jkH : jad Tryz.prog kfb0 := ⟨jqo,trivial⟩
theorem jrk (l u : List ByteArray) (hlu : l.length = u.length) (hl : l.length ≤ 1048576) : ∀ (m i : Nat),m + i = l.length → LoopsTo (rdB brC Tryz.prog [] jfI jgl Tryz.f56 4 []) [aP (pL l),aP (pL u),aI i] (if holds (l.drop i = u.drop i) = true then (.exit 0,[aP (pL l),aX]) else (.ret,[aP (pL l),aB false])) := by
 intro m
 induction m with
 | zero =>
  intro i hm
  rw [List.drop_eq_nil_of_le (show l.length ≤ i by omega),List.drop_eq_nil_of_le (show u.length ≤ i by omega),if_pos (jal rfl)]
  refine .done _ _ ((ji8 l u i).trans ?_)
  rw [dF (by omega)]
  rfl
 | succ m ih =>
  intro i hm
  have hi : i < l.length := by omega
  have hiu : i < u.length := by omega
  have tree := ji8 l u i
  simp (disch := omega) only [dT,nqF,jao l i hi,jao u i hiu,nqH,List.headD_cons,PV.isStr,PV.asStr,blt0,wrap1,Bool.and_true] at tree
  have ih' := ih (i + 1) (by omega)
  rw [nqK hi,nqK hiu]
  cases hb : (ByteArray.toList l[i] == ByteArray.toList u[i]) with
  | true =>
   rw [hb] at tree
   have e : l[i] = u[i] := ByteArray.ext (Array.ext' (by rw [← ByteArray.toList_eq,← ByteArray.toList_eq]; exact eq_of_beq hb))
   have e2 : holds (l[i] :: List.drop (i + 1) l = u[i] :: List.drop (i + 1) u) = holds (List.drop (i + 1) l = List.drop (i + 1) u) := by
    congr 1
    rw [e]
    exact propext ⟨fun h => by injection h,fun h => by rw [h]⟩
   rw [e2]
   exact .step _ _ _ tree ih'
  | false =>
   rw [hb] at tree
   rw [if_neg (fun h => by
    have := jan h
    injection this with h1 _
    rw [h1,beq_self_eq_true] at hb
    cases hb)]
   exact .done _ _ tree
theorem joA : jab Tryz.prog 56 E_eqSt := jac mix (tab := []) trivial (lp := jfI) (LO := jgl) ⟨Tryz.func56,by kernel_rfl,by kernel_rfl⟩ (by kernel_rfl) fun ivs res bxs h => by
 unfold E_eqSt at h
 split at h
 ·rename_i p q
  obtain ⟨hc,he⟩ := pick1 h
  cases he
  obtain ⟨k0,k1⟩ := andE hc
  obtain ⟨l,rfl,h_l⟩ := jak k0
  obtain ⟨u,rfl,h_u⟩ := jak k1
  have e_l : asL (pL l) = l := jaf l
  have e_u : asL (pL u) = u := jaf u
  have i_l : isL (pL l) = true := jaj h_l
  have i_u : isL (pL u) = true := jaj h_u
  rw [e_l,e_u]
  refine ⟨jas 4 (by kernel_rfl) (by kernel_rfl) (by kernel_rfl) ?_,?_⟩
  ·intro ls e ls' hl
   replace hl : pickA (jfn ls) = some (e,ls') := hl
   unfold jfn at hl
   split at hl
   ·rename_i p q i
    have key : (isL p && isL q && (i == 0) && decide ((asL p).length = (asL q).length)) = true → LoopsTo (rdB brC Tryz.prog [] jfI jgl Tryz.f56 4 []) [aP p,aP q,aI i] (if holds (asL p = asL q) = true then (.exit 0,[aP p,aX]) else (.ret,[aP p,aB false])) := fun hc => by
     obtain ⟨hc,g3⟩ := andE hc
     obtain ⟨hc,g2⟩ := andE hc
     obtain ⟨g0,g1⟩ := andE hc
     obtain ⟨t,rfl,h_t⟩ := jak g0
     obtain ⟨v,rfl,h_v⟩ := jak g1
     have e_t : asL (pL t) = t := jaf t
     have e_v : asL (pL v) = v := jaf v
     rw [e_t,e_v] at g3 ⊢
     rw [eq_of_beq g2]
     exact jrk t v (nqI g3) h_t.1 t.length 0 rfl
    rcases pick2 hl with ⟨hc,he⟩ | ⟨hn,hc,he⟩
    ·cases he
     obtain ⟨hc,k⟩ := andE hc
     have := key hc
     rw [if_pos k] at this
     exact this
    ·cases he
     have := key hc
     rw [hc,Bool.true_and] at hn
     rw [hn,if_neg Bool.false_ne_true] at this
     exact this
   ·cases hl
  ·have tree := jo4 l u
   rw [i_l,i_u,e_l,e_u] at tree
   by_cases hlen : l.length = u.length
   ·have hb : (((l.length : Nat) : Int) == ((u.length : Nat) : Int)) = true := beq_iff_eq.2 (by omega)
    have hb2 : (((l.length : Nat) : Int) != ((u.length : Nat) : Int)) = false := by unfold bne; rw [hb]; rfl
    simp only [hb,hb2,decide_eq_true hlen,Bool.and_true,Bool.true_and,beq_self_eq_true] at tree
    cases hh : holds (l = u) with
    | true => rw [hh] at tree; exact tree.trans rfl
    | false => rw [hh] at tree; exact tree.trans rfl
   ·have hb : (((l.length : Nat) : Int) == ((u.length : Nat) : Int)) = false := beq_eq_false_iff_ne.2 (by omega)
    have hb2 : (((l.length : Nat) : Int) != ((u.length : Nat) : Int)) = true := by unfold bne; rw [hb]; rfl
    have hh : holds (l = u) = false := @decide_eq_false _ (Classical.propDecidable _) fun e => hlen (by rw [e])
    simp only [hb,hb2] at tree
    rw [hh]
    exact tree.trans rfl
 ·cases h
theorem ba_tl {a b : ByteArray} (h : a.toList = b.toList) : a = b := ByteArray.ext (Array.ext' (by rw [← ByteArray.toList_eq,← ByteArray.toList_eq]; exact h))
theorem jch : ∀ (k : Int) (l : List ByteArray),(mkL k l).length = l.length
 | k,[] => rfl
 | k,x :: t => by unfold mkL; rw [nqH,nqH,jch (k + 1) t]
theorem jsJ : ∀ (m i : Nat) (l : List ByteArray) (k : Int),m + i = l.length → l.length ≤ 1048576 → 1 ≤ k → k ≤ 900000000 + i →
  LoopsTo (rdB brC Tryz.prog kfb0 jes jl9 Tryz.f70 2 [0]) [aWL l,aI k,aI i] (.exit 0,[aWL (l.take i ++ mkL k (l.drop i)),aI (k + m)]) := by
 intro m
 induction m with
 | zero =>
  intro i l k hm hl h1 h2
  rw [List.drop_eq_nil_of_le (show l.length ≤ i by omega),List.take_of_length_le (show l.length ≤ i by omega),show mkL k [] = [] from rfl,List.append_nil,show k + ((0 : Nat) : Int) = k by omega]
  refine .done _ _ ((jmk l k i).trans ?_)
  rw [dF (by omega)]
  rfl
 | succ m ih =>
  intro i l k hm hl h1 h2
  have hi : i < l.length := by omega
  have tree := jmk l k i
  have w1 : IntKind.wrap .i64 (k + 1) = k + 1 := wrapI (by omega) (by omega)
  have q1 : holds (k ≤ 1000000000) = true := jal (by omega)
  have q2 : Nat.ble (i * 1 + 1) (List.map PV.str l).length = true := Nat.ble_eq_true_of_le (by rw [List.length_map]; omega)
  have e1 : List.take (i * 1) (List.map PV.str l) ++ [PV.str (mkV k)] ++ List.drop (i * 1 + 1) (List.map PV.str l) = List.map PV.str (l.take i ++ [mkV k] ++ l.drop (i + 1)) := by
   rw [Nat.mul_one,List.map_append,List.map_append,List.map_take,List.map_drop]
   rfl
  have e2 : (l.take i ++ [mkV k] ++ l.drop (i + 1)).length = l.length := by
   rw [nqG,nqG,List.length_take,List.length_drop,List.length_singleton]
   omega
  have e3 : (l.take i ++ [mkV k] ++ l.drop (i + 1)).take (i + 1) = l.take i ++ [mkV k] := by
   rw [List.take_left' (by rw [nqG,List.length_take,List.length_singleton]; omega)]
  have e4 : (l.take i ++ [mkV k] ++ l.drop (i + 1)).drop (i + 1) = l.drop (i + 1) := by
   rw [List.drop_left' (by rw [nqG,List.length_take,List.length_singleton]; omega)]
  rw [nqF,w1,q1,q2,e1] at tree
  simp (disch := omega) only [dT,wrap1,Bool.and_true,show Nat.beq (List.length [PV.str (mkV k)]) 1 = true from rfl] at tree
  have := ih (i + 1) (l.take i ++ [mkV k] ++ l.drop (i + 1)) (k + 1) (by rw [e2]; omega) (by rw [e2]; omega) (by omega) (by omega)
  rw [e3,e4] at this
  rw [nqK hi,show mkL k (l[i] :: l.drop (i + 1)) = [mkV k] ++ mkL (k + 1) (l.drop (i + 1)) from rfl,show k + ((m + 1 : Nat) : Int) = k + 1 + (m : Int) by omega,← List.append_assoc]
  unfold aWL at this ⊢
  rw [e2] at this
  exact .step _ _ _ tree this
theorem jtF : jab Tryz.prog 70 E_mkS := jac mix jkH (lp := jes) (LO := jl9) ⟨Tryz.func70,by kernel_rfl,by kernel_rfl⟩ (by kernel_rfl) fun ivs res bxs h => by
 unfold E_mkS at h
 split at h
 ·rename_i e n l k
  obtain ⟨hc,he⟩ := pick1 h
  cases he
  obtain ⟨hc,k3⟩ := andE hc
  obtain ⟨hc,k2⟩ := andE hc
  obtain ⟨k0,k1⟩ := andE hc
  obtain ⟨t,q_t,h_t⟩ := jae k0
  injection q_t with qa qb
  subst qa
  subst qb
  obtain rfl := nqB k1
  have e_t : asL (.sl t.length (t.map .str)) = t := jaf t
  refine ⟨jas 2 (by kernel_rfl) (by kernel_rfl) (by kernel_rfl) ?_,(jsh t k).trans ?_⟩
  ·intro ls e ls' hl
   replace hl : pickA (jhA ls) = some (e,ls') := hl
   unfold jhA at hl
   split at hl
   ·rename_i x e n l k i
    obtain ⟨hc,he⟩ := pick1 hl
    cases he
    obtain ⟨hc,g5⟩ := andE hc
    obtain ⟨hc,g4⟩ := andE hc
    obtain ⟨hc,g3⟩ := andE hc
    obtain ⟨hc,g2⟩ := andE hc
    obtain ⟨g0,g1⟩ := andE hc
    obtain ⟨t,q_t,h_t⟩ := jae g0
    injection q_t with qa qb
    subst qa
    subst qb
    have e_t : asL (.sl t.length (t.map .str)) = t := jaf t
    obtain rfl := nqB g1
    obtain rfl := nqB g2
    obtain rfl := eq_of_beq g3
    rw [e_t]
    have g5 := jan g5
    have := jsJ t.length 0 t k rfl h_t.1 (nqI g4) (by omega)
    rw [List.take_zero,List.nil_append,List.drop_zero] at this
    exact this
   ·cases hl
  ·rw [e_t,k0,k2,k3,jch,Nat.beq_refl t.length]
   rfl
 ·cases h
theorem jsY {α : Type} {l m : List (Bool × α)} {q : α} (h : pickA (l ++ m) = some q) : pickA l = some q ∨ pickA m = some q := by
 induction l with
 | nil => exact .inr h
 | cons a t ih =>
  obtain ⟨c,r⟩ := a
  cases c with
  | true => exact .inl h
  | false => exact ih h
theorem jd0 {P : Program} {g : FuncId} {E1 E2 : Entry} (h1 : jab P g E1) (h2 : jab P g E2) : jab P g (fun ivs => E1 ivs ++ E2 ivs) :=
 ⟨h1.1,fun ivs res bxs h => (jsY h).elim (h1.2 ivs res bxs) (h2.2 ivs res bxs)⟩
theorem jmw : ∀ (k : Int) (l : List ByteArray),mkL k (mkL k l) = mkL k l
 | k,[] => rfl
 | k,x :: t => by
  show mkV k :: mkL (k + 1) (mkL (k + 1) t) = mkV k :: mkL (k + 1) t
  rw [jmw]
theorem jrO : ∀ (m i : Nat) (l : List ByteArray) (k : Int),m + i = l.length → l.length ≤ 1048576 → 1 ≤ k → k ≤ 900000000 + i → l.drop i = mkL k (l.drop i) →
  LoopsTo (rdB brC Tryz.prog kfb0 jl2 jlW Tryz.f72 2 []) [aP (pL l),aI k,aI i] (.exit 0,[aI (k + m)]) := by
 intro m
 induction m with
 | zero =>
  intro i l k hm hl h1 h2 hd
  rw [show k + ((0 : Nat) : Int) = k by omega]
  refine .done _ _ ((jmB l k i).trans ?_)
  rw [dF (by omega)]
  rfl
 | succ m ih =>
  intro i l k hm hl h1 h2 hd
  have hi : i < l.length := by omega
  have tree := jmB l k i
  have w1 : IntKind.wrap .i64 (k + 1) = k + 1 := wrapI (by omega) (by omega)
  have q1 : holds (k ≤ 1000000000) = true := jal (by omega)
  rw [nqK hi,show mkL k (l[i] :: l.drop (i + 1)) = mkV k :: mkL (k + 1) (l.drop (i + 1)) from rfl] at hd
  injection hd with he hd
  simp (disch := omega) only [dT,nqF,jao l i hi,nqH,List.headD_cons,PV.isStr,PV.asStr,blt0,wrap1,w1,q1,he,bne_self_eq_false,beq_self_eq_true,Bool.not_true,Bool.and_true] at tree
  have := ih (i + 1) l (k + 1) (by omega) hl (by omega) (by omega) hd
  rw [show k + ((m + 1 : Nat) : Int) = k + 1 + (m : Int) by omega]
  exact .step _ _ _ tree this
theorem jtA : jab Tryz.prog 72 E_hdS := jac mix jkH (lp := jl2) (LO := jlW) ⟨Tryz.func72,by kernel_rfl,by kernel_rfl⟩ (by kernel_rfl) fun ivs res bxs h => by
 unfold E_hdS at h
 split at h
 ·rename_i p k
  obtain ⟨hc,he⟩ := pick1 h
  cases he
  obtain ⟨hc,k3⟩ := andE hc
  obtain ⟨hc,k2⟩ := andE hc
  obtain ⟨k0,k1⟩ := andE hc
  obtain ⟨t,rfl,h_t⟩ := jak k0
  have e_t : asL (pL t) = t := jaf t
  refine ⟨jas 2 (by kernel_rfl) (by kernel_rfl) (by kernel_rfl) ?_,(jsj t k).trans ?_⟩
  ·intro ls e ls' hl
   replace hl : pickA (jhe ls) = some (e,ls') := hl
   unfold jhe at hl
   split at hl
   ·rename_i p k i
    obtain ⟨hc,he⟩ := pick1 hl
    cases he
    obtain ⟨hc,g4⟩ := andE hc
    obtain ⟨hc,g3⟩ := andE hc
    obtain ⟨hc,g2⟩ := andE hc
    obtain ⟨g0,g1⟩ := andE hc
    obtain ⟨t,rfl,h_t⟩ := jak g0
    have e_t : asL (pL t) = t := jaf t
    obtain rfl := eq_of_beq g1
    rw [e_t] at g4 ⊢
    have g3 := jan g3
    exact jrO t.length 0 t k rfl h_t.1 (nqI g2) (by omega) (jan g4)
   ·cases hl
  ·rw [e_t] at k3 ⊢
   rw [k0,k1,k2,k3]
   rfl
 ·cases h
theorem jig : jad Tryz.prog kfb1 := ⟨jtF,jqo,trivial⟩
theorem jvT : jad Tryz.prog kfb4 := ⟨jtA,jqo,trivial⟩
theorem jtt : ∀ (l : List ByteArray) (k : Int),∀ x ∈ mkL k l,x.size ≤ 21
 | [],_,x,hx => by cases hx
 | y :: t,k,x,hx => by
  rcases List.mem_cons.1 hx with rfl | hx
  ·exact jhn k
  ·exact jtt t (k + 1) x hx
theorem jp3 : jad Tryz.prog kfb2 := ⟨joA,trivial⟩
theorem jmR : ∀ b ∈ jar (jaM Tryz.f70),jaO Tryz.prog (tabL kfb0) (OL jes) Tryz.f70.ntmps (pbOf []) jlu b := by
 refine jas 2 (by kernel_rfl) (by kernel_rfl) (by kernel_rfl) ?_
 intro ls e ls' hl
 replace hl : pickA (jhI ls) = some (e,ls') := hl
 unfold jhI at hl
 split at hl
 ·rename_i n l k i
  obtain ⟨hc,he⟩ := pick1 hl
  cases he
  obtain ⟨hc,g2⟩ := andE hc
  obtain ⟨g0,g1⟩ := andE hc
  obtain rfl := nqB g0
  obtain rfl := ja8 g1
  obtain rfl := eq_of_beq g2
  exact .done _ _ (jrn k 0)
 ·cases hl
theorem jub : jab Tryz.prog 70 E_mkNn := jac mix jkH (lp := jes) (LO := jlu) ⟨Tryz.func70,by kernel_rfl,by kernel_rfl⟩ (by kernel_rfl) fun ivs res bxs h => by
 unfold E_mkNn at h
 split at h
 ·rename_i n l k
  obtain ⟨hc,he⟩ := pick1 h
  cases he
  obtain ⟨g0,g1⟩ := andE hc
  obtain rfl := nqB g0
  obtain rfl := ja8 g1
  exact ⟨jmR,(jqv k).trans (by rw [jbO]; rfl)⟩
 ·cases h
theorem ju0 : jab Tryz.prog 70 E_mkS2 := jd0 jtF jub
theorem jhS {k : Int} (h : mrkB k = true) : decide (1 ≤ k) = true ∧ holds (k ≤ 100000000) = true := andE h
theorem jul {k : Int} (h1 : 1 ≤ k) (h2 : k ≤ 100000000) : mrkB k = true := by
 unfold mrkB
 rw [decide_eq_true h1,jal h2]
 rfl
def cNd (pre : List PV) (a b c : PV) (post : List PV) : List PV := pre ++ a :: b :: c :: post
theorem jrh {pre : List PV} {i : Nat} (h : pre.length = i * 3) (j : Nat) (mid : List PV) (x : PV) : List.take (i * 3 + j) (pre ++ mid) ++ [x] ++ List.drop (i * 3 + j + 1) (pre ++ mid) = pre ++ (mid.take j ++ [x] ++ mid.drop (j + 1)) := by
 rw [← h,List.take_length_add_append,Nat.add_assoc,List.drop_length_add_append]
 simp only [List.append_assoc]
theorem jw4 {pre : List PV} {i : Nat} (h : pre.length = i * 3) (a b c z : PV) (post : List PV) : List.take (i * 3 + 0) (cNd pre a b c post) ++ [z] ++ List.drop (i * 3 + 0 + 1) (cNd pre a b c post) = cNd pre z b c post := jrh h 0 _ z
theorem jwE {pre : List PV} {i : Nat} (h : pre.length = i * 3) (a b c z : PV) (post : List PV) : List.take (i * 3 + 1) (cNd pre a b c post) ++ [z] ++ List.drop (i * 3 + 1 + 1) (cNd pre a b c post) = cNd pre a z c post := jrh h 1 _ z
theorem jwR {pre : List PV} {i : Nat} (h : pre.length = i * 3) (a b c z : PV) (post : List PV) : List.take (i * 3 + 2) (cNd pre a b c post) ++ [z] ++ List.drop (i * 3 + 2 + 1) (cNd pre a b c post) = cNd pre a b z post := jrh h 2 _ z
theorem jqR {pre : List PV} {i : Nat} (h : pre.length = i * 3) (a b c : PV) (post : List PV) : (cNd pre a b c post).length = i * 3 + 3 + post.length := by
 unfold cNd
 rw [nqG,h]
 simp only [nqH]
 omega
theorem cNd_b {pre : List PV} {i : Nat} (h : pre.length = i * 3) (a b c : PV) (post : List PV) (j : Nat) (hj : j < 3) : Nat.ble (i * 3 + j + 1) (cNd pre a b c post).length = true := Nat.ble_eq_true_of_le (by rw [jqR h]; omega)
theorem ju2 (i : Nat) : noKid 70 3 (i * 3 + 0) = true := by
 unfold noKid
 rw [show (i * 3 + 0) % 3 = 0 by omega]
 kernel_rfl
theorem jwg {pre : List PV} {i : Nat} (h : pre.length = i * 3) (a b c : PV) (post : List PV) : Nat.blt (i * 3 + 1) (cNd pre a b c post).length = true := Nat.ble_eq_true_of_le (by rw [jqR h]; omega)
theorem jwb {pre : List PV} {i : Nat} (h : pre.length = i * 3) (a b c : PV) (post : List PV) : List.headD (List.drop (i * 3 + 1) (cNd pre a b c post)) PV.nilp = b := by
 unfold cNd
 rw [← h,List.drop_length_add_append]
 rfl
theorem juZ (i : Nat) : isKid 70 3 (i * 3 + 1) 1 9 = true := by
 unfold isKid
 rw [show (i * 3 + 1) % 3 = 1 by omega]
 kernel_rfl
theorem juw (i : Nat) : noKid 70 3 (i * 3 + 2) = true := by
 unfold noKid
 rw [show (i * 3 + 2) % 3 = 2 by omega]
 kernel_rfl
theorem jnn (y : NodeT) (u : List NodeT) : encN (y :: u) = [PV.str y.name,PV.sl y.subs.length (y.subs.map .str),PV.str y.value] ++ encN u := rfl
theorem jhi : ∀ (l : List NodeT) (k : Int),k ≤ mkNdE k l
 | [],k => Int.le_refl _
 | x :: t,k => by
  have := jhi t (k + 2 + (x.subs.length : Int))
  show k ≤ mkNdE (k + 2 + (x.subs.length : Int)) t
  omega
theorem joF (n : Nat) (hn : n ≤ 1048576) : ∀ (l : List NodeT) (i : Nat) (pre : List PV) (k : Int),i + l.length = n → pre.length = i * 3 → (∀ x ∈ l,shN x) → 1 ≤ k → mkNdE k l ≤ 800000000 →
  LoopsTo (rdB brC Tryz.prog kfb1 jbJ jdi Tryz.f69 2 [0]) [aWNd (pre ++ encN l) n,aI k,aI i] (.exit 0,[aWNd (pre ++ encN (mkNds k l)) n,aI (mkNdE k l)]) := by
 intro l
 induction l with
 | nil =>
  intro i pre k hi hp hl h1 h2
  refine .done _ _ ((jiX _ _ _ _).trans ?_)
  try delta zzae1
  try delta zzae0
  rw [List.length_nil] at hi
  rw [dF (by omega)]
  rfl
 | cons x t ih =>
  intro i pre k hi hp hl h1 h2
  rw [nqH] at hi
  have hx := hl x (List.mem_cons_self ..)
  have hxl1 : shL x.subs := hx.2.1
  have hz1 : x.subs.length ≤ 1048576 := hxl1.1
  have hE : mkNdE (k + 2 + (x.subs.length : Int)) t ≤ 800000000 := h2
  have hG := jhi t (k + 2 + (x.subs.length : Int))
  have tree := jiX n (cNd pre (.str x.name) (.sl x.subs.length (x.subs.map .str)) (.str x.value) (encN t)) k i
  revert tree; try delta zzae1; intro tree
  revert tree; try delta zzae0; intro tree
  have hs0 : holds (k ≤ 1000000000) = true := jal (by omega)
  have ds0 : decide (1 ≤ k) = true := dT (by omega)
  have w0 : IntKind.wrap .i64 (k + 1) = k + 1 := by rw [wrapI (by omega) (by omega)]
  have hs1 : holds (k + 1 ≤ 900000000) = true := jal (by omega)
  have ds1 : decide (1 ≤ k + 1) = true := dT (by omega)
  have dn1 : decide (k + 1 + (x.subs.length : Int) < 0) = false := dF (by omega)
  have il1 : isE pL shL (PV.sl x.subs.length (x.subs.map .str)) = true := jaj hxl1
  have al1 : asE pL (PV.sl x.subs.length (x.subs.map .str)) = x.subs := jaf x.subs
  have hs2 : holds (k + 1 + (x.subs.length : Int) ≤ 1000000000) = true := jal (by omega)
  have ds2 : decide (1 ≤ k + 1 + (x.subs.length : Int)) = true := dT (by omega)
  have w2 : IntKind.wrap .i64 (k + 1 + (x.subs.length : Int) + 1) = k + 2 + (x.subs.length : Int) := by rw [wrapI (by omega) (by omega)]; omega
  have d0 : decide ((i : Int) < (n : Int)) = true := dT (by omega)
  have d1 : decide (0 ≤ (i : Int)) = true := dT (by omega)
  simp only [nqF,d0,d1,wrap1 (show i ≤ 2305843009213693952 by omega),jw4 hp,jwE hp,jwR hp,cNd_b hp _ _ _  _ 0 (by decide),cNd_b hp _ _ _  _ 1 (by decide),cNd_b hp _ _ _  _ 2 (by decide),jwg hp,jwb hp,PV.isSl,PV.slN,PV.slL,ju2 i,juZ i,juw i,isL,asL,Nat.beq_refl,jch,hs0,ds0,w0,hs1,ds1,dn1,il1,al1,hs2,ds2,w2,Bool.and_true,Bool.true_and] at tree
  have := ih (i + 1) (pre ++ [.str (mkV (k)),.sl x.subs.length ((mkL (k + 1) x.subs).map .str),.str (mkV (k + 1 + (x.subs.length : Int)))]) (k + 2 + (x.subs.length : Int)) (by omega) (by rw [nqG,hp]; simp only [nqH,List.length_nil]; omega) (fun y hy => hl y (List.mem_cons_of_mem _ hy)) (by omega) hE
  rw [List.append_assoc,List.append_assoc] at this
  have e : pre ++ encN (mkNds k (x :: t)) = pre ++ ([.str (mkV (k)),.sl x.subs.length ((mkL (k + 1) x.subs).map .str),.str (mkV (k + 1 + (x.subs.length : Int)))] ++ encN (mkNds (k + 2 + (x.subs.length : Int)) t)) := by
   rw [show mkNds k (x :: t) = mkNd k x :: mkNds (k + 2 + (x.subs.length : Int)) t from rfl,jnn]
   simp only [mkNd,jch] <;> rfl
  rw [e]
  exact .step _ _ _ tree this
theorem jg3 : ∀ b ∈ jar (jaM Tryz.f69),jaO Tryz.prog (tabL kfb1) (OL jbJ) Tryz.f69.ntmps (pbOf [0]) jdi b := by
 refine jas 2 (by kernel_rfl) (by kernel_rfl) (by kernel_rfl) ?_
 intro ls e ls' hl
 replace hl : pickA (jfy ls) = some (e,ls') := hl
 unfold jfy at hl
 split at hl
 ·rename_i x e n l k i
  obtain ⟨hc,he⟩ := pick1 hl
  cases he
  obtain ⟨hc,g6⟩ := andE hc
  obtain ⟨hc,g5⟩ := andE hc
  obtain ⟨hc,g4⟩ := andE hc
  obtain ⟨hc,g3⟩ := andE hc
  obtain ⟨hc,g2⟩ := andE hc
  obtain ⟨g0,g1⟩ := andE hc
  obtain ⟨t,q_t,h_t⟩ := jae g0
  injection q_t with qa qb
  subst qa
  subst qb
  have e_t : asE pNs (.sl t.length (encN t)) = t := jau t
  obtain rfl := nqB g1
  obtain rfl := nqB g2
  obtain rfl := eq_of_beq g3
  unfold asNs
  rw [e_t]
  have g5 := jan g5
  unfold asNs at g6
  rw [e_t] at g6
  exact joF t.length h_t.1 t 0 [] k (by omega) rfl h_t.2 (nqI g4) (jan g6)
 ·rename_i x e n l k i
  obtain ⟨hc,he⟩ := pick1 hl
  cases he
  obtain ⟨hc,g4⟩ := andE hc
  obtain ⟨hc,g3⟩ := andE hc
  obtain ⟨hc,g2⟩ := andE hc
  obtain ⟨g0,g1⟩ := andE hc
  obtain rfl := nqB g0
  obtain rfl := nqB g1
  obtain rfl := nqB g2
  obtain rfl := ja8 g3
  obtain rfl := eq_of_beq g4
  refine .done _ _ ((jnj k 0).trans ?_)
  rw [dF (by omega)]
  rfl
 ·cases hl
theorem jku : ∀ b ∈ jar (jaM Tryz.f69),jaO Tryz.prog (tabL kfb1) (OL jbJ) Tryz.f69.ntmps (pbOf []) jdQ b := by
 refine jas 2 (by kernel_rfl) (by kernel_rfl) (by kernel_rfl) ?_
 intro ls e ls' hl
 unfold jdQ at hl
 split at hl
 ·rename_i n l k i
  obtain ⟨hc,he⟩ := pick1 hl
  cases he
  obtain ⟨hc,g2⟩ := andE hc
  obtain ⟨g0,g1⟩ := andE hc
  obtain rfl := nqB g0
  obtain rfl := ja8 g1
  obtain rfl := eq_of_beq g2
  refine .done _ _ ((jnE k 0).trans ?_)
  rw [dF (by omega)]
  rfl
 ·cases hl
theorem jsR : jab Tryz.prog 69 E_mkNda := jac mix jig (lp := jbJ) (LO := jdi) ⟨Tryz.func69,by kernel_rfl,by kernel_rfl⟩ (by kernel_rfl) fun ivs res bxs h => by
 unfold E_mkNda at h
 split at h
 ·rename_i e n l k
  rcases pick2 h with ⟨hc,he⟩ | ⟨hn,hc,he⟩
  ·cases he
   obtain ⟨hc,g4⟩ := andE hc
   obtain ⟨hc,gm⟩ := andE hc
   obtain ⟨g2,g3⟩ := jhS gm
   obtain ⟨g0,g1⟩ := andE hc
   obtain rfl := nqB g0
   refine ⟨jg3,(jrj n l k).trans ?_⟩
   rw [g1,g2,g3,g4,Nat.beq_refl n]
   rfl
  ·cases he
   obtain ⟨hc,g2⟩ := andE hc
   obtain ⟨g0,g1⟩ := andE hc
   obtain rfl := nqB g0
   obtain rfl := nqB g1
   obtain rfl := ja8 g2
   refine ⟨jg3,(jmZ k).trans ?_⟩
   rw [jbO]
   rfl
 ·cases h
theorem jsN : jab Tryz.prog 69 E_mkNdb := jac mix jig (lp := jbJ) (LO := jdQ) ⟨Tryz.func69,by kernel_rfl,by kernel_rfl⟩ (by kernel_rfl) fun ivs res bxs h => by
 unfold E_mkNdb at h
 split at h
 ·rename_i n l k
  obtain ⟨hc,he⟩ := pick1 h
  cases he
  obtain ⟨g0,g1⟩ := andE hc
  obtain rfl := nqB g0
  obtain rfl := ja8 g1
  refine ⟨jku,(jnu k).trans ?_⟩
  rw [jbO]
  rfl
 ·cases h
theorem ju5 : jab Tryz.prog 69 E_mkNd := jd0 jsR jsN
theorem eqvNd (x y : NodeT) : holds (x = y) = ((x.name.toList == y.name.toList) && (holds (x.subs = y.subs) && ((x.value.toList == y.value.toList)))) := by
 rw [Bool.eq_iff_iff]
 constructor
 ·intro h
  have e := jan h
  subst e
  simp only [show ∀ z : List ByteArray,holds (z = z) = true from fun _ => jal rfl,show holds True = true from jal trivial,beq_self_eq_true,Bool.and_true]
 ·intro h
  simp only [nqE,beq_iff_eq] at h
  obtain ⟨h0,h1,h2⟩ := h
  have h1 := jan h1
  cases x
  cases y
  dsimp only at h0 h1 h2
  rw [ba_tl h0,h1,ba_tl h2]
  exact jal rfl
theorem jt4 : jab Tryz.prog 92 E_eqNd := jac mix jp3 (lp := []) (LO := LO0) ⟨Tryz.func92,by kernel_rfl,by kernel_rfl⟩ (by kernel_rfl) fun ivs res bxs h => by
 unfold E_eqNd at h
 split at h
 ·rename_i p q
  obtain ⟨hc,he⟩ := pick1 h
  cases he
  obtain ⟨k0,k1⟩ := andE hc
  obtain ⟨x,rfl,h_x⟩ := jae k0
  obtain ⟨y,rfl,h_y⟩ := jae k1
  have e_x : asN (pN x) = x := jbA x
  have e_y : asN (pN y) = y := jbA y
  rw [e_x,e_y,eqvNd]
  refine ⟨jaq (by kernel_rfl),(jq6 x y).trans ?_⟩
  have ix1 := jaj h_x.2.1
  have iy1 := jaj h_y.2.1
  simp only [isL,jaf,ix1,iy1,Bool.and_true]
  generalize (x.name.toList == y.name.toList) = g0
  generalize holds (x.subs = y.subs) = g1
  generalize (x.value.toList == y.value.toList) = g2
  cases g0 <;> cases g1 <;> cases g2 <;> rfl
 ·cases h
theorem jrJ : jad Tryz.prog eqbNd := ⟨jt4,trivial⟩
theorem jnN (l u : List NodeT) (h_l : shT l) (h_u : shT u) (hlu : l.length = u.length) : ∀ (m i : Nat),m + i = l.length → LoopsTo (rdB brC Tryz.prog eqbNd jdF jdB Tryz.f55 4 []) [aP (pNs l),aP (pNs u),aI i] (if holds (l.drop i = u.drop i) = true then (.exit 0,[aP (pNs l),aX]) else (.ret,[aP (pNs l),aB false])) := by
 have hl := h_l.1
 intro m
 induction m with
 | zero =>
  intro i hm
  rw [List.drop_eq_nil_of_le (show l.length ≤ i by omega),List.drop_eq_nil_of_le (show u.length ≤ i by omega),if_pos (jal rfl)]
  refine .done _ _ ((jgL l u i).trans ?_)
  rw [dF (by omega)]
  rfl
 | succ m ih =>
  intro i hm
  have hi : i < l.length := by omega
  have hiu : i < u.length := by omega
  have tree := jgL l u i
  simp (disch := first | omega | rfl) only [isN,jfT (jeP h_l hi),jfT (jeP h_u hiu),jbA,dT,nqF,jaW l i hi,jaW u i hiu,nqH,List.headD_cons,List.tail_cons,PV.isStr,PV.asStr,PV.isSl,PV.slN,PV.slL,PV.isBool,PV.asBool,PV.isInt,PV.asInt,ble1,ble2,ble3,ble4,ble5,ble6,blt0,wrap1,Bool.and_true,Bool.true_and] at tree
  have ih' := ih (i + 1) (by omega)
  rw [nqK hi,nqK hiu]
  cases hb : holds (l[i] = u[i]) with
  | true =>
   rw [hb] at tree
   have e : l[i] = u[i] := jan hb
   have e2 : holds (l[i] :: List.drop (i + 1) l = u[i] :: List.drop (i + 1) u) = holds (List.drop (i + 1) l = List.drop (i + 1) u) := by
    congr 1
    rw [e]
    exact propext ⟨fun h => by injection h,fun h => by rw [h]⟩
   rw [e2]
   exact .step _ _ _ tree ih'
  | false =>
   rw [hb] at tree
   rw [if_neg (fun h => by
    have := jan h
    injection this with h1 _
    rw [jal h1] at hb
    cases hb)]
   exact .done _ _ tree
theorem js5 : jab Tryz.prog 55 E_eqNds := jac mix jrJ (lp := jdF) (LO := jdB) ⟨Tryz.func55,by kernel_rfl,by kernel_rfl⟩ (by kernel_rfl) fun ivs res bxs h => by
 unfold E_eqNds at h
 split at h
 ·rename_i p q
  obtain ⟨hc,he⟩ := pick1 h
  cases he
  obtain ⟨k0,k1⟩ := andE hc
  obtain ⟨l,rfl,h_l⟩ := jae k0
  obtain ⟨u,rfl,h_u⟩ := jae k1
  have e_l : asNs (pNs l) = l := jau l
  have e_u : asNs (pNs u) = u := jau u
  have i_l : isNs (pNs l) = true := jbt h_l
  have i_u : isNs (pNs u) = true := jbt h_u
  rw [e_l,e_u]
  refine ⟨jas 4 (by kernel_rfl) (by kernel_rfl) (by kernel_rfl) ?_,?_⟩
  ·intro ls e ls' hl
   replace hl : pickA (jeg ls) = some (e,ls') := hl
   unfold jeg at hl
   split at hl
   ·rename_i p q i
    have key : (isNs p && isNs q && (i == 0) && decide ((asNs p).length = (asNs q).length)) = true → LoopsTo (rdB brC Tryz.prog eqbNd jdF jdB Tryz.f55 4 []) [aP p,aP q,aI i] (if holds (asNs p = asNs q) = true then (.exit 0,[aP p,aX]) else (.ret,[aP p,aB false])) := fun hc => by
     obtain ⟨hc,g3⟩ := andE hc
     obtain ⟨hc,g2⟩ := andE hc
     obtain ⟨g0,g1⟩ := andE hc
     obtain ⟨t,rfl,h_t⟩ := jae g0
     obtain ⟨v,rfl,h_v⟩ := jae g1
     have e_t : asNs (pNs t) = t := jau t
     have e_v : asNs (pNs v) = v := jau v
     rw [e_t,e_v] at g3 ⊢
     rw [eq_of_beq g2]
     exact jnN t v h_t h_v (nqI g3) t.length 0 rfl
    rcases pick2 hl with ⟨hc,he⟩ | ⟨hn,hc,he⟩
    ·cases he
     obtain ⟨hc,k⟩ := andE hc
     have := key hc
     rw [if_pos k] at this
     exact this
    ·cases he
     have := key hc
     rw [hc,Bool.true_and] at hn
     rw [hn,if_neg Bool.false_ne_true] at this
     exact this
   ·cases hl
  ·have tree := jnZ l u
   rw [i_l,i_u,e_l,e_u] at tree
   by_cases hlen : l.length = u.length
   ·have hb : (((l.length : Nat) : Int) == ((u.length : Nat) : Int)) = true := beq_iff_eq.2 (by omega)
    have hb2 : (((l.length : Nat) : Int) != ((u.length : Nat) : Int)) = false := by unfold bne; rw [hb]; rfl
    simp only [hb,hb2,decide_eq_true hlen,Bool.and_true,Bool.true_and,beq_self_eq_true] at tree
    cases hh : holds (l = u) with
    | true => rw [hh] at tree; exact tree.trans rfl
    | false => rw [hh] at tree; exact tree.trans rfl
   ·have hb : (((l.length : Nat) : Int) == ((u.length : Nat) : Int)) = false := beq_eq_false_iff_ne.2 (by omega)
    have hb2 : (((l.length : Nat) : Int) != ((u.length : Nat) : Int)) = true := by unfold bne; rw [hb]; rfl
    have hh : holds (l = u) = false := @decide_eq_false _ (Classical.propDecidable _) fun e => hlen (by rw [e])
    simp only [hb,hb2] at tree
    rw [hh]
    exact tree.trans rfl
 ·cases h
end
section
theorem jkj (n : Int) (a : Int) (b : Int) : jsf brC n a b = brC (decide (a ≤ n)) (some ((.cv (.pv (.bool (decide (n ≤ b)))),[]))) (some ((.cv (.pv (.bool false)),[]))) := by kernel_rfl
theorem jlm (xs : List ByteArray) (s : ByteArray) : jsc brC xs s = brC (isL (pL xs) && (↑xs.length : Int) == (↑(List.length (asL (pL xs))) : Int) && 0 == 0 && decide (jay (asL (pL xs)) s < List.length (asL (pL xs)))) (some ((.cv (.pv (.int .i64 (↑(jay (asL (pL xs)) s) : Int))),[]))) (brC (isL (pL xs) && (↑xs.length : Int) == (↑(List.length (asL (pL xs))) : Int) && 0 == 0) (some ((.cv (.pv (.int .i64 (Int.negSucc 0))),[]))) none) := by kernel_rfl
theorem jf7 (xs : List ByteArray) (s : ByteArray) (i : Int) : js8 brC xs s i = brC (decide (i < (↑xs.length : Int))) (brC (decide (0 ≤ i) && decide (i < (↑xs.length : Int))) (brC (Nat.blt 0 (List.length (List.drop (Int.toNat i * 1) (List.map PV.str xs))) && PV.isStr (List.headD (List.drop (Int.toNat i * 1) (List.map PV.str xs)) PV.nilp) && true) (brC (ByteArray.toList s == ByteArray.toList (PV.asStr (List.headD (List.drop (Int.toNat i * 1) (List.map PV.str xs)) PV.nilp))) (some (.inr (.ret,[(.pv (.int .i64 i),none)]))) (some (.inl [(.pv (.sl xs.length (List.map PV.str xs)),none),(.pv (.str s),none),(.pv (.int .i64 (↑xs.length : Int)),none),(.pv (.int .i64 (IntKind.wrap .i64 (i + 1))),none)]))) none) none) (some (.inr (.exit 0,[(.bad,none)]))) := by kernel_rfl
end
section
open Go.RowKit
section
variable {α : Type} {p : α → Bool}
theorem jgg {x : α} {t : List α} (h : p x = true) : idxW p (x :: t) = 0 := by unfold idxW; rw [List.takeWhile_cons,h]; rfl
theorem jdV {x : α} {t : List α} (h : p x = false) : idxW p (x :: t) = idxW p t + 1 := by unfold idxW; rw [List.takeWhile_cons,h]; rfl
end
theorem jkC (xs : List ByteArray) (hx : shL xs) (s : ByteArray) : ∀ (m i : Nat),m + i = xs.length → LoopsTo (rdB brC Tryz.prog [] ja5 jcO Tryz.f100 2 []) [aP (pL xs),aS s,aI xs.length,aI i]
  (if jay (xs.drop i) s + i < xs.length then (.ret,[aI ((jay (xs.drop i) s + i : Nat) : Int)]) else (.exit 0,[aX])) := by
 have hl := hx.1
 intro m
 induction m with
 | zero =>
  intro i hm
  obtain rfl : i = xs.length := by omega
  rw [List.drop_length,show jay [] s = 0 from rfl,if_neg (by omega)]
  refine .done _ _ ((jf7 xs s xs.length).trans ?_)
  rw [dF (by omega)]
  rfl
 | succ m ih =>
  intro i hm
  have hi : i < xs.length := by omega
  have ih' := ih (i + 1) (by omega)
  have tree := jf7 xs s i
  simp (disch := omega) only [dT,nqF,jao xs i hi,nqH,List.headD_cons,PV.isStr,PV.asStr,blt0,wrap1,Bool.and_true,Bool.true_and] at tree
  rw [nqK hi]
  cases hin : sEq s xs[i] with
  | true =>
   have hin' : (s.toList == xs[i].toList) = true := hin
   rw [hin'] at tree
   rw [show jay (xs[i] :: xs.drop (i + 1)) s = 0 from jgg (p := fun x => sEq s x) hin,Nat.zero_add,if_pos hi]
   exact .done _ _ tree
  | false =>
   have hin' : (s.toList == xs[i].toList) = false := hin
   rw [hin'] at tree
   rw [show jay (xs[i] :: xs.drop (i + 1)) s = jay (xs.drop (i + 1)) s + 1 from jdV (p := fun x => sEq s x) hin]
   have e : jay (xs.drop (i + 1)) s + (i + 1) = jay (xs.drop (i + 1)) s + 1 + i := by omega
   rw [e] at ih'
   exact .step _ _ _ tree ih'
theorem jfN : jab Tryz.prog 100 E_IndexS := jac mix (tab := []) trivial (lp := ja5) (LO := jcO) ⟨Tryz.func100,by kernel_rfl,by kernel_rfl⟩ (by kernel_rfl) fun ivs res bxs h => by
 unfold E_IndexS at h
 split at h
 ·rename_i p s
  obtain ⟨hc,he⟩ := pick1 h
  cases he
  obtain ⟨xs,rfl,hx⟩ := jak hc
  refine ⟨jas 2 (by kernel_rfl) (by kernel_rfl) (by kernel_rfl) ?_,(jlm xs s).trans ?_⟩
  ·intro ls e ls' hl
   unfold jcO at hl
   split at hl
   ·rename_i p s n i
    cases hg : (isL p && (n == ((asL p).length : Int)) && (i == 0)) with
    | false => rw [hg] at hl; simp only [pickA,Bool.false_and,cond_false] at hl; cases hl
    | true =>
     rw [hg,Bool.true_and] at hl
     simp only [nqE,beq_iff_eq] at hg
     obtain ⟨⟨g1,g4⟩,g5⟩ := hg
     obtain ⟨ys,rfl,hy⟩ := jak g1
     simp only [jaf] at hl g4
     rw [g4,g5]
     have := jkC ys hy s ys.length 0 (by omega)
     rw [List.drop_zero,Nat.add_zero] at this
     by_cases hlt : jay ys s < ys.length
     ·rw [dT hlt] at hl
      rw [if_pos hlt] at this
      cases hl
      exact this
     ·rw [dF hlt] at hl
      rw [if_neg hlt] at this
      cases hl
      exact this
   ·cases hl
  ·have e4 : asL (pL xs) = xs := jaf xs
   rw [e4]
   simp only [jaj hx,jaf,isL,beq_self_eq_true,Bool.and_true,Bool.true_and,Nat.beq_refl]
   by_cases hlt : jay xs s < xs.length
   ·rw [dT hlt,if_pos hlt]
    rfl
   ·rw [dF hlt,if_neg hlt]
    rfl
 ·cases h
theorem ifIdx (k n : Nat) : decide ((if k < n then (k : Int) else -1) ≥ 0) = decide (k < n) := by
 by_cases h : k < n
 ·rw [if_pos h,dT h,dT (by omega)]
 ·rw [if_neg h,dF h,dF (by omega)]
end
section
open Go.RowKit
end
section
end
section
open Go.RowKit
theorem joT : jab Tryz.prog 103 E_within := jac mix (tab := []) trivial (lp := []) (LO := LO0) ⟨Tryz.func103,by kernel_rfl,by kernel_rfl⟩ (by kernel_rfl) fun ivs res bxs h => by
 unfold E_within at h
 split at h
 ·rename_i n a b
  cases h
  refine ⟨jaq (by kernel_rfl),(jkj n a b).trans ?_⟩
  cases decide (a ≤ n) <;> rfl
 ·cases h
end
section
open Go.RowKit
def eqP (p q : PV) : Bool := holds (p = q)
theorem jtl (p : PV) : eqP p p = true := jal rfl
theorem joh {p q : PV} (h : eqP p q = true) : p = q := jan h
def E_INameOk : Entry := fun ivs => match ivs with | [.cv (.pv (.str s))] => [(decide (s.size ≤ 1048576),cB (nameB s),[])] | _ => []
def E_ISubOk : Entry := fun ivs => match ivs with | [.cv (.pv (.str s))] => [(true,cB (subB s),[])] | _ => []
def E_SubsOk1 : Entry := fun ivs => match ivs with | [.cv (.pv (.str s))] => [(true,cB (!subB s),[])] | _ => []
def cmpS (a b : ByteArray) : Int := cmpV (strLt a b) (strLt b a)
def E_cmpStr : Entry := fun ivs => match ivs with | [.cv (.pv (.str a)),.cv (.pv (.str b))] => [(true,cI (cmpS a b),[])] | _ => []
abbrev coll (a b : ByteArray) : Int := collV a.data.toList b.data.toList
def E_collate : Entry := fun ivs => match ivs with | [.cv (.pv (.str a)),.cv (.pv (.str b))] => [(decide (a.size ≤ 1048576) && decide (b.size ≤ 1048576),cI (coll a b),[])] | _ => []
def jsl (br : Br) (s : ByteArray) := evB br Tryz.prog [] [] LO0 Tryz.f140 [cS s]
def iab0 : List (FuncId × Entry) := [(102,E_INameOk),(140,E_ISubOk),(122,E_cmpStr),(148,E_collate)]
def jpm (br : Br) (s : ByteArray) := evB br Tryz.prog iab0 [] LO0 Tryz.f139 [cS s]
def iab1 : List (FuncId × Entry) := (139,E_SubsOk1) :: iab0
abbrev jih : List (Nat × List Nat × List Nat) := [(2,[0,1,7,8],[4])]
def ja2 (xs : List ByteArray) : Nat := (xs.takeWhile subB).length
def jfM : LoopT := fun _ ls => match ls with
 | [(.pv p,none),(.pv (.clo f []),none),(.pv (.int .i64 n),none),(.pv (.int .i64 i),none)] =>
  [(isL p && Nat.beq f 139 && (n == ((asL p).length : Int)) && (i == 0) && decide (ja2 (asL p) < (asL p).length),.ret,[aI (ja2 (asL p))]),(isL p && Nat.beq f 139 && (n == ((asL p).length : Int)) && (i == 0),.exit 0,[aX])]
 | _ => []
def jw7 (br : Br) (xs : List ByteArray) (i : Int) := rdB br Tryz.prog iab1 jih jfM Tryz.f133 2 [] [aP (pL xs),aP (.clo 139 []),aI xs.length,aI i]
def jv5 (br : Br) (xs : List ByteArray) := evB br Tryz.prog iab1 jih jfM Tryz.f133 [cP (pL xs),cP (.clo 139 [])]
def E_IdxS : Entry := fun ivs => match ivs with | [.cv (.pv p),.cv (.pv (.clo f []))] => [(isL p && Nat.beq f 139,cI (if ja2 (asL p) < (asL p).length then ja2 (asL p) else -1),[])] | _ => []
def iab2 : List (FuncId × Entry) := (133,E_IdxS) :: iab1
def jv2 (br : Br) (xs : List ByteArray) := evB br Tryz.prog iab2 [] LO0 Tryz.f106 [cP (pL xs),cP (.clo 139 [])]
def E_ConS : Entry := fun ivs => match ivs with | [.cv (.pv p),.cv (.pv (.clo f []))] => [(isL p && Nat.beq f 139,cB (!(asL p).all subB),[])] | _ => []
def iab3 : List (FuncId × Entry) := (106,E_ConS) :: iab2
def jqL (br : Br) (xs : List ByteArray) := evB br Tryz.prog iab3 [] LO0 Tryz.f118 [cP (pL xs)]
def E_ISubsOk : Entry := fun ivs => match ivs with | [.cv (.pv p)] => [(isL p,cB (subsB (asL p)),[])] | _ => []
def iab4 : List (FuncId × Entry) := (118,E_ISubsOk) :: iab3
def jiB (br : Br) (s : ByteArray) (xs : List ByteArray) := evB br Tryz.prog iab4 [] LO0 Tryz.f90 [cS s,cP (pL xs)]
def E_locationOk : Entry := fun ivs => match ivs with | [.cv (.pv (.str s)),.cv (.pv p)] => [(decide (s.size ≤ 1048576) && isL p,cB (jdb s (asL p)),[])] | _ => []
def iab5 : List (FuncId × Entry) := (90,E_locationOk) :: iab4
def jth (br : Br) (x : NodeT) := evB br Tryz.prog iab5 [] LO0 Tryz.f95 [cP (pN x)]
def E_nodeOk : Entry := fun ivs => match ivs with | [.cv (.pv p)] => [(isN p,cB (nodeB (asN p)),[])] | _ => []
def collL : List ByteArray → List ByteArray → Int
 | [],[] => 0
 | [],_ :: _ => -1
 | _ :: _,[] => 1
 | a :: x,b :: y => if coll a b = 0 then collL x y else coll a b
abbrev jio : List (Nat × List Nat × List Nat) := [(2,[0,1,2,11,12,13],[0,1,6])]
def collA : List ByteArray → List ByteArray → Option Int
 | [],_ => none
 | _ :: _,[] => some 1
 | a :: x,b :: y => if coll a b = 0 then collA x y else some (coll a b)
def jgk : LoopT := fun _ ls => match ls with
 | [(.pv p,none),(.pv q,none),(.pv (.clo f []),none),(.pv p',none),(.pv (.int .i64 n),none),(.pv (.int .i64 i),none)] =>
  [(isL p && isL q && Nat.beq f 148 && eqP p' p && (n == ((asL p).length : Int)) && (i == 0) && (collA (asL p) (asL q)).isSome,.ret,[aP p,aP q,aI ((collA (asL p) (asL q)).getD 0)]),
   (isL p && isL q && Nat.beq f 148 && eqP p' p && (n == ((asL p).length : Int)) && (i == 0),.exit 0,[aP p,aP q,aX])]
 | _ => []
def jwX (br : Br) (xs ys : List ByteArray) (i : Int) := rdB br Tryz.prog iab0 jio jgk Tryz.f147 2 [] [aP (pL xs),aP (pL ys),aP (.clo 148 []),aP (pL xs),aI xs.length,aI i]
def jwu (br : Br) (xs ys : List ByteArray) := evB br Tryz.prog iab0 jio jgk Tryz.f147 [cP (pL xs),cP (pL ys),cP (.clo 148 [])]
def E_CmpF : Entry := fun ivs => match ivs with | [.cv (.pv p),.cv (.pv q),.cv (.pv (.clo f []))] => [(isL p && isL q && Nat.beq f 148,cI (collL (asL p) (asL q)),[])] | _ => []
def iab6 : List (FuncId × Entry) := (95,E_nodeOk) :: (147,E_CmpF) :: iab5
def jkZ (br : Br) (xs ys : List ByteArray) := evB br Tryz.prog iab6 [] LO0 Tryz.f123 [cP (pL xs),cP (pL ys)]
def E_collLists : Entry := fun ivs => match ivs with | [.cv (.pv p),.cv (.pv q)] => [(isL p && isL q,cI (collL (asL p) (asL q)),[])] | _ => []
abbrev lp_Or : List (Nat × List Nat × List Nat) := [(3,[3,6,7,8],[2,3])]
def LO_Or : LoopT := fun _ ls => match ls with
 | [(.pv (.int .i64 0),none),(.pv (.sl 2 [.int .i64 a,.int .i64 b]),none),(.pv (.int .i64 2),none),(.pv (.int .i64 0),none)] =>
  [(a != 0,.ret,[aI a,aI 0]),(b != 0,.ret,[aI b,aI 0]),(true,.exit 0,[aX,aI 0])]
 | _ => []
def r_Or (br : Br) (a b : Int) (i : Int) := rdB br Tryz.prog [] lp_Or LO_Or Tryz.f121 3 [] [aI 0,aP (.sl 2 [.int .i64 a,.int .i64 b]),aI 2,aI i]
def q_Or (br : Br) (a b : Int) := evB br Tryz.prog [] lp_Or LO_Or Tryz.f121 [cP (.sl 2 [.int .i64 a,.int .i64 b])]
def orI (a b : Int) : Int := if a = 0 then b else a
def E_Or : Entry := fun ivs => match ivs with | [.cv (.pv (.sl 2 [.int .i64 a,.int .i64 b]))] => [(true,cI (orI a b),[])] | _ => []
def iab7 : List (FuncId × Entry) := (123,E_collLists) :: (121,E_Or) :: iab6
def jsb (br : Br) (a : ByteArray) (xs : List ByteArray) (b : ByteArray) (ys : List ByteArray) := evB br Tryz.prog iab7 [] LO0 Tryz.f96 [cS a,cP (pL xs),cS b,cP (pL ys)]
def jey (a : ByteArray) (xs : List ByteArray) (b : ByteArray) (ys : List ByteArray) : Int := orI (cmpS a b) (collL xs ys)
def E_cmpLoc : Entry := fun ivs => match ivs with | [.cv (.pv (.str a)),.cv (.pv p),.cv (.pv (.str b)),.cv (.pv q)] => [(isL p && isL q,cI (jey a (asL p) b (asL q)),[])] | _ => []
def iab8 : List (FuncId × Entry) := (96,E_cmpLoc) :: iab7
abbrev jc6 : List (Nat × List Nat × List Nat) := [(4,[1,10,11,12],[2])]
def jex : Option NodeT → List NodeT → Bool
 | _,[] => true
 | p,x :: t => nodeB x && (match p with | none => true | some y => decide (jey y.name y.subs x.name x.subs < 0)) && jex (some x) t
def jb5 : LoopT := fun _ ls => match ls with
 | [(.ptr x 0,some (.box [.pv p])),(.pv p',none),(.pv (.int .i64 n),none),(.pv (.int .i64 i),none)] =>
  [(isNs p && Nat.beq x 4096 && eqP p' p && (n == ((asNs p).length : Int)) && (i == 0) && !jex none (asNs p),.ret,[aB false]),(isNs p && Nat.beq x 4096 && eqP p' p && (n == ((asNs p).length : Int)) && (i == 0),.exit 0,[aX])]
 | _ => []
def jou (br : Br) (t : List NodeT) (i : Int) := rdB br Tryz.prog iab8 jc6 jb5 Tryz.f61 4 [] [aBx 1 [.pv (pNs t)],aP (pNs t),aI t.length,aI i]
def jqD (br : Br) (t : List NodeT) := evB br Tryz.prog iab8 jc6 jb5 Tryz.f61 [cP (pT t)]
end
section
theorem joG (xs : List ByteArray) : jv5 brC xs = brC (isL (pL xs) && Nat.beq 139 139 && (↑xs.length : Int) == (↑(List.length (asL (pL xs))) : Int) && 0 == 0 && decide (ja2 (asL (pL xs)) < List.length (asL (pL xs)))) (some ((.cv (.pv (.int .i64 (↑(ja2 (asL (pL xs))) : Int))),[]))) (brC (isL (pL xs) && Nat.beq 139 139 && (↑xs.length : Int) == (↑(List.length (asL (pL xs))) : Int) && 0 == 0) (some ((.cv (.pv (.int .i64 (Int.negSucc 0))),[]))) none) := by kernel_rfl
theorem jjR (xs : List ByteArray) : jqL brC xs = brC (decide ((↑xs.length : Int) ≤ 4)) (brC (isL (PV.sl xs.length (List.map PV.str xs)) && Nat.beq 139 139) (some ((.cv (.pv (.bool !!List.all (asL (PV.sl xs.length (List.map PV.str xs))) subB)),[]))) none) (some ((.cv (.pv (.bool false)),[]))) := by kernel_rfl
theorem jkJ (s : ByteArray) : jsl brC s = brC (decide ((↑(ByteArray.size s) : Int) ≥ 1)) (some ((.cv (.pv (.bool (decide ((↑(ByteArray.size s) : Int) ≤ 24)))),[]))) (some ((.cv (.pv (.bool false)),[]))) := by kernel_rfl
theorem jqh (xs : List ByteArray) : jv2 brC xs = brC (isL (PV.sl xs.length (List.map PV.str xs)) && Nat.beq 139 139) (some ((.cv (.pv (.bool (decide ((if ja2 (asL (PV.sl xs.length (List.map PV.str xs))) < List.length (asL (PV.sl xs.length (List.map PV.str xs))) then (↑(ja2 (asL (PV.sl xs.length (List.map PV.str xs)))) : Int) else -1) ≥ 0)))),[]))) none := by kernel_rfl
theorem jk1 (a : Int) (b : Int) (i : Int) : r_Or brC a b i = brC (decide (i < 2)) (brC (decide (0 ≤ i) && decide (i < (↑2 : Int))) (brC (Nat.blt 0 (List.length (List.drop (Int.toNat i * 1) [PV.int .i64 a,PV.int .i64 b])) && PV.isInt .i64 (List.headD (List.drop (Int.toNat i * 1) [PV.int .i64 a,PV.int .i64 b]) PV.nilp) && true) (brC (PV.asInt (List.headD (List.drop (Int.toNat i * 1) [PV.int .i64 a,PV.int .i64 b]) PV.nilp) != 0) (some (.inr (.ret,[(.pv (.int .i64 (PV.asInt (List.headD (List.drop (Int.toNat i * 1) [PV.int .i64 a,PV.int .i64 b]) PV.nilp))),none),(.pv (.int .i64 (Int.ofNat 0)),none)]))) (some (.inl [(.pv (.int .i64 (Int.ofNat 0)),none),(.pv (.sl 2 [PV.int .i64 a,PV.int .i64 b]),none),(.pv (.int .i64 (Int.ofNat 2)),none),(.pv (.int .i64 (IntKind.wrap .i64 (i + 1))),none)]))) none) none) (some (.inr (.exit 0,[(.bad,none),(.pv (.int .i64 (Int.ofNat 0)),none)]))) := by kernel_rfl
theorem jjd (t : List NodeT) : jqD brC t = brC (decide ((↑t.length : Int) > 120)) (some ((.cv (.pv (.bool false)),[]))) (brC (isNs (pNs t) && Nat.beq 4096 4096 && eqP (pNs t) (pNs t) && (↑t.length : Int) == (↑(List.length (asNs (pNs t))) : Int) && 0 == 0 && !jex none (asNs (pNs t))) (some ((.cv (.pv (.bool false)),[]))) (brC (isNs (pNs t) && Nat.beq 4096 4096 && eqP (pNs t) (pNs t) && (↑t.length : Int) == (↑(List.length (asNs (pNs t))) : Int) && 0 == 0) (some ((.cv (.pv (.bool true)),[]))) none)) := by kernel_rfl
theorem ji4 (xs : List ByteArray) (ys : List ByteArray) (i : Int) : jwX brC xs ys i = brC (decide (i < (↑xs.length : Int))) (brC (decide (0 ≤ i) && decide (i < (↑xs.length : Int))) (brC (Nat.blt 0 (List.length (List.drop (Int.toNat i * 1) (List.map PV.str xs))) && PV.isStr (List.headD (List.drop (Int.toNat i * 1) (List.map PV.str xs)) PV.nilp) && true) (brC (decide (i ≥ (↑ys.length : Int))) (some (.inr (.ret,[(.pv (.sl xs.length (List.map PV.str xs)),none),(.pv (.sl ys.length (List.map PV.str ys)),none),(.pv (.int .i64 (Int.ofNat 1)),none)]))) (brC (decide (0 ≤ i) && decide (i < (↑ys.length : Int))) (brC (Nat.blt 0 (List.length (List.drop (Int.toNat i * 1) (List.map PV.str ys))) && PV.isStr (List.headD (List.drop (Int.toNat i * 1) (List.map PV.str ys)) PV.nilp) && true) (brC (decide (ByteArray.size (PV.asStr (List.headD (List.drop (Int.toNat i * 1) (List.map PV.str xs)) PV.nilp)) ≤ 1048576) && decide (ByteArray.size (PV.asStr (List.headD (List.drop (Int.toNat i * 1) (List.map PV.str ys)) PV.nilp)) ≤ 1048576)) (brC (coll (PV.asStr (List.headD (List.drop (Int.toNat i * 1) (List.map PV.str xs)) PV.nilp)) (PV.asStr (List.headD (List.drop (Int.toNat i * 1) (List.map PV.str ys)) PV.nilp)) != 0) (some (.inr (.ret,[(.pv (.sl xs.length (List.map PV.str xs)),none),(.pv (.sl ys.length (List.map PV.str ys)),none),(.pv (.int .i64 (coll (PV.asStr (List.headD (List.drop (Int.toNat i * 1) (List.map PV.str xs)) PV.nilp)) (PV.asStr (List.headD (List.drop (Int.toNat i * 1) (List.map PV.str ys)) PV.nilp)))),none)]))) (some (.inl [(.pv (.sl xs.length (List.map PV.str xs)),none),(.pv (.sl ys.length (List.map PV.str ys)),none),(.pv (PV.clo 148 []),none),(.pv (.sl xs.length (List.map PV.str xs)),none),(.pv (.int .i64 (↑xs.length : Int)),none),(.pv (.int .i64 (IntKind.wrap .i64 (i + 1))),none)]))) none) none) none)) none) none) (some (.inr (.exit 0,[(.pv (.sl xs.length (List.map PV.str xs)),none),(.pv (.sl ys.length (List.map PV.str ys)),none),(.bad,none)]))) := by kernel_rfl
theorem jjB (s : ByteArray) : jpm brC s = some ((.cv (.pv (.bool !subB s)),[])) := by kernel_rfl
theorem jiJ (xs : List ByteArray) (i : Int) : jw7 brC xs i = brC (decide (i < (↑xs.length : Int))) (brC (decide (0 ≤ i) && decide (i < (↑xs.length : Int))) (brC (Nat.blt 0 (List.length (List.drop (Int.toNat i * 1) (List.map PV.str xs))) && PV.isStr (List.headD (List.drop (Int.toNat i * 1) (List.map PV.str xs)) PV.nilp) && true) (brC (!subB (PV.asStr (List.headD (List.drop (Int.toNat i * 1) (List.map PV.str xs)) PV.nilp))) (some (.inr (.ret,[(.pv (.int .i64 i),none)]))) (some (.inl [(.pv (.sl xs.length (List.map PV.str xs)),none),(.pv (PV.clo 139 []),none),(.pv (.int .i64 (↑xs.length : Int)),none),(.pv (.int .i64 (IntKind.wrap .i64 (i + 1))),none)]))) none) none) (some (.inr (.exit 0,[(.bad,none)]))) := by kernel_rfl
theorem jvW (a : Int) (b : Int) : q_Or brC a b = brC (a != 0) (some ((.cv (.pv (.int .i64 a)),[]))) (brC (b != 0) (some ((.cv (.pv (.int .i64 b)),[]))) (some ((.cv (.pv (.int .i64 (Int.ofNat 0))),[])))) := by kernel_rfl
theorem jfG (s : ByteArray) (xs : List ByteArray) : jiB brC s xs = brC (decide (ByteArray.size s ≤ 1048576)) (brC (nameB s) (brC (isL (PV.sl xs.length (List.map PV.str xs))) (some ((.cv (.pv (.bool (subsB (asL (PV.sl xs.length (List.map PV.str xs)))))),[]))) none) (some ((.cv (.pv (.bool false)),[])))) none := by kernel_rfl
theorem jlp (x : NodeT) : jth brC x = brC (decide (ByteArray.size x.name ≤ 1048576) && isL (PV.sl x.subs.length (List.map PV.str x.subs))) (brC (jdb x.name (asL (PV.sl x.subs.length (List.map PV.str x.subs)))) (some ((.cv (.pv (.bool (decide ((↑(ByteArray.size x.value) : Int) ≤ 64)))),[]))) (some ((.cv (.pv (.bool false)),[])))) none := by kernel_rfl
theorem jgs (xs : List ByteArray) (ys : List ByteArray) : jkZ brC xs ys = brC (isL (PV.sl xs.length (List.map PV.str xs)) && isL (PV.sl ys.length (List.map PV.str ys)) && Nat.beq 148 148) (some ((.cv (.pv (.int .i64 (collL (asL (PV.sl xs.length (List.map PV.str xs))) (asL (PV.sl ys.length (List.map PV.str ys)))))),[]))) none := by kernel_rfl
theorem jkc (a : ByteArray) (xs : List ByteArray) (b : ByteArray) (ys : List ByteArray) : jsb brC a xs b ys = brC (isL (PV.sl xs.length (List.map PV.str xs)) && isL (PV.sl ys.length (List.map PV.str ys))) (some ((.cv (.pv (.int .i64 (orI (cmpS a b) (collL (asL (PV.sl xs.length (List.map PV.str xs))) (asL (PV.sl ys.length (List.map PV.str ys))))))),[]))) none := by kernel_rfl
theorem jqu (xs : List ByteArray) (ys : List ByteArray) : jwu brC xs ys = brC (isL (pL xs) && isL (pL ys) && Nat.beq 148 148 && eqP (pL xs) (pL xs) && (↑xs.length : Int) == (↑(List.length (asL (pL xs))) : Int) && 0 == 0 && Option.isSome (collA (asL (pL xs)) (asL (pL ys)))) (some ((.cv (.pv (.int .i64 (Option.getD (collA (asL (pL xs)) (asL (pL ys))) 0))),[]))) (brC (isL (pL xs) && isL (pL ys) && Nat.beq 148 148 && eqP (pL xs) (pL xs) && (↑xs.length : Int) == (↑(List.length (asL (pL xs))) : Int) && 0 == 0) (brC (decide ((↑xs.length : Int) < (↑ys.length : Int))) (some ((.cv (.pv (.int .i64 (Int.negSucc 0))),[]))) (some ((.cv (.pv (.int .i64 (Int.ofNat 0))),[])))) none) := by kernel_rfl
theorem jeB (t : List NodeT) (i : Int) : jou brC t i = brC (decide (i < (↑t.length : Int))) (brC (decide (0 ≤ i) && decide (i < (↑t.length : Int))) (brC (Nat.ble 3 (List.length (List.drop (Int.toNat i * 3) (encN t))) && (PV.isStr (List.headD (List.drop (Int.toNat i * 3) (encN t)) PV.nilp) && (PV.isSl (List.headD (List.tail (List.drop (Int.toNat i * 3) (encN t))) PV.nilp) && (PV.isStr (List.headD (List.tail (List.tail (List.drop (Int.toNat i * 3) (encN t)))) PV.nilp) && true && true) && true) && true) && true) (brC (isN (PV.agg [PV.str (PV.asStr (List.headD (List.drop (Int.toNat i * 3) (encN t)) PV.nilp)),PV.sl (PV.slN (List.headD (List.tail (List.drop (Int.toNat i * 3) (encN t))) PV.nilp)) (PV.slL (List.headD (List.tail (List.drop (Int.toNat i * 3) (encN t))) PV.nilp)),PV.str (PV.asStr (List.headD (List.tail (List.tail (List.drop (Int.toNat i * 3) (encN t)))) PV.nilp))])) (brC (!nodeB (asN (PV.agg [PV.str (PV.asStr (List.headD (List.drop (Int.toNat i * 3) (encN t)) PV.nilp)),PV.sl (PV.slN (List.headD (List.tail (List.drop (Int.toNat i * 3) (encN t))) PV.nilp)) (PV.slL (List.headD (List.tail (List.drop (Int.toNat i * 3) (encN t))) PV.nilp)),PV.str (PV.asStr (List.headD (List.tail (List.tail (List.drop (Int.toNat i * 3) (encN t)))) PV.nilp))]))) (some (.inr (.ret,[(.pv (.bool false),none)]))) (brC (decide (i > 0)) (brC (decide (0 ≤ IntKind.wrap .i64 (i - 1)) && decide (IntKind.wrap .i64 (i - 1) < (↑t.length : Int))) (brC (Nat.blt 0 (List.length (List.drop 0 (List.drop (Int.toNat (IntKind.wrap .i64 (i - 1)) * 3) (encN t)))) && PV.isStr (List.headD (List.drop 0 (List.drop (Int.toNat (IntKind.wrap .i64 (i - 1)) * 3) (encN t))) PV.nilp) && true) (brC (decide (0 ≤ IntKind.wrap .i64 (i - 1)) && decide (IntKind.wrap .i64 (i - 1) < (↑t.length : Int))) (brC (Nat.blt 0 (List.length (List.drop 1 (List.drop (Int.toNat (IntKind.wrap .i64 (i - 1)) * 3) (encN t)))) && PV.isSl (List.headD (List.drop 1 (List.drop (Int.toNat (IntKind.wrap .i64 (i - 1)) * 3) (encN t))) PV.nilp) && true) (brC (isL (PV.sl (PV.slN (List.headD (List.drop 1 (List.drop (Int.toNat (IntKind.wrap .i64 (i - 1)) * 3) (encN t))) PV.nilp)) (PV.slL (List.headD (List.drop 1 (List.drop (Int.toNat (IntKind.wrap .i64 (i - 1)) * 3) (encN t))) PV.nilp))) && isL (PV.sl (PV.slN (List.headD (List.tail (List.drop (Int.toNat i * 3) (encN t))) PV.nilp)) (PV.slL (List.headD (List.tail (List.drop (Int.toNat i * 3) (encN t))) PV.nilp)))) (brC (decide (jey (PV.asStr (List.headD (List.drop 0 (List.drop (Int.toNat (IntKind.wrap .i64 (i - 1)) * 3) (encN t))) PV.nilp)) (asL (PV.sl (PV.slN (List.headD (List.drop 1 (List.drop (Int.toNat (IntKind.wrap .i64 (i - 1)) * 3) (encN t))) PV.nilp)) (PV.slL (List.headD (List.drop 1 (List.drop (Int.toNat (IntKind.wrap .i64 (i - 1)) * 3) (encN t))) PV.nilp)))) (PV.asStr (List.headD (List.drop (Int.toNat i * 3) (encN t)) PV.nilp)) (asL (PV.sl (PV.slN (List.headD (List.tail (List.drop (Int.toNat i * 3) (encN t))) PV.nilp)) (PV.slL (List.headD (List.tail (List.drop (Int.toNat i * 3) (encN t))) PV.nilp)))) ≥ 0)) (some (.inr (.ret,[(.pv (.bool false),none)]))) (some (.inl [(.ptr 4096 0,some (.box [.pv (.sl t.length (encN t))])),(.pv (.sl t.length (encN t)),none),(.pv (.int .i64 (↑t.length : Int)),none),(.pv (.int .i64 (IntKind.wrap .i64 (i + 1))),none)]))) none) none) none) none) none) (some (.inl [(.ptr 4096 0,some (.box [.pv (.sl t.length (encN t))])),(.pv (.sl t.length (encN t)),none),(.pv (.int .i64 (↑t.length : Int)),none),(.pv (.int .i64 (IntKind.wrap .i64 (i + 1))),none)])))) none) none) none) (some (.inr (.exit 0,[(.bad,none)]))) := by kernel_rfl
end
section
open Go.RowKit
theorem jcF (x y : Bool) : cmpV x y = 0 ↔ x = false ∧ y = false := by cases x <;> cases y <;> decide
theorem ji9 {a b : ByteArray} : coll a b = 0 ↔ a = b := by
 constructor
 ·intro h
  have key : a.data.toList = b.data.toList := by
   unfold coll collV at h
   by_cases ha : jaI a.data.toList = true
   ·rw [if_pos ha] at h
    by_cases hb : jaI b.data.toList = true
    ·rw [if_pos hb,jcF,decide_eq_false_iff_not,decide_eq_false_iff_not] at h
     have he : numOf a.data.toList = numOf b.data.toList := by omega
     unfold jaI at ha hb
     have ha' := nqI ha
     have hb' := nqI hb
     rw [← ha',← hb',he]
    ·rw [if_neg hb] at h; cases h
   ·rw [if_neg ha] at h
    by_cases hb : jaI b.data.toList = true
    ·rw [if_pos hb] at h; cases h
    ·rw [if_neg hb,jcF] at h
     by_cases he : a.data.toList = b.data.toList
     ·exact he
     ·have := jcJ he
      rw [h.1,h.2] at this
      cases this
  rw [← jbT a,← jbT b,key]
 ·rintro rfl
  have h1 := jjT a.data.toList a.data.toList
  rw [jdG] at h1
  unfold coll collV
  split
  ·rw [jcF]
   simp
  ·rw [jcF,jco]
   exact ⟨rfl,rfl⟩
theorem jsv (a b : ByteArray) : decide (coll a b < 0) = bef a b := jjT _ _
theorem jjb : ∀ xs ys : List ByteArray,decide (collL xs ys < 0) = jbP xs ys
 | [],[] => rfl
 | [],_ :: _ => rfl
 | _ :: _,[] => rfl
 | a :: x,b :: y => by
  unfold collL jbP
  by_cases h : coll a b = 0
  ·rw [if_pos h,if_pos (jbM.2 (ji9.1 h))]
   exact jjb x y
  ·rw [if_neg h,if_neg (fun e => h (ji9.2 (jbM.1 e)))]
   exact jsv a b
theorem jsG (a b : ByteArray) : decide (cmpS a b < 0) = strLt a b := by
 unfold cmpS
 cases strLt a b <;> cases strLt b a <;> rfl
theorem jle {a b : ByteArray} (h : a ≠ b) : (strLt a b || strLt b a) = true := by
 unfold strLt
 rw [jcp,jcp]
 exact jcJ fun e => h (by rw [← jbT a,← jbT b,e])
theorem jcC (a : ByteArray) : strLt a a = false := by unfold strLt; rw [jcp]; exact jco _
theorem jjU {a b : ByteArray} : cmpS a b = 0 ↔ a = b := by
 unfold cmpS
 rw [jcF]
 constructor
 ·intro h
  by_cases he : a = b
  ·exact he
  ·have := jle he
   rw [h.1,h.2] at this; cases this
 ·rintro rfl
  exact ⟨jcC a,jcC a⟩
theorem jmO (a : ByteArray) (xs : List ByteArray) (b : ByteArray) (ys : List ByteArray) : decide (jey a xs b ys < 0) = locLt a xs b ys := by
 unfold jey orI locLt
 by_cases h : cmpS a b = 0
 ·obtain rfl := jjU.1 h
  rw [if_pos h,jcC,jl1]
  exact jjb xs ys
 ·rw [if_neg h,jsG,jiR.2 fun e => h (jjU.2 e)]
  simp
theorem jjF : ∀ (p : Option NodeT) (t : List NodeT),jex p t = jb4 p t
 | _,[] => rfl
 | p,x :: t => by
  unfold jex jb4
  rw [jjF (some x) t]
  cases p with
  | none => rfl
  | some y => dsimp only; rw [jmO]
theorem jgZ : jab Tryz.prog 102 E_INameOk := ⟨⟨_,Tryz.func102,by kernel_rfl,by kernel_rfl⟩,fun ivs res bxs h => by
 unfold E_INameOk at h
 split at h
 ·rename_i s
  obtain ⟨hc,he⟩ := pick1 h
  cases he
  have hs : s.size ≤ 1048576 := nqI hc
  refine jbE (ps := [.str s]) (v := .bool (nameB s)) rfl fun w com vals hv _ => ?_
  obtain ⟨v,vs,rfl,hv,hn⟩ := hv.of_cons
  rw [hn.of_nil]
  cases hv
  refine (jmN s _ rfl w (by omega)).mono ?_
  rintro e w' ⟨rfl,rfl⟩
  exact ⟨rfl,Below.refl _ _⟩
 ·cases h⟩
theorem joV : jab Tryz.prog 140 E_ISubOk := jac mix (tab := []) trivial (lp := []) (LO := LO0) ⟨Tryz.func140,by kernel_rfl,by kernel_rfl⟩ (by kernel_rfl) fun ivs res bxs h => by
 unfold E_ISubOk at h
 split at h
 ·rename_i s
  cases h
  refine ⟨jaq (by kernel_rfl),(jkJ s).trans ?_⟩
  unfold subB
  by_cases h1 : 1 ≤ s.size
  ·rw [dT (show (s.size : Int) ≥ 1 by omega),dT h1,show decide ((s.size : Int) ≤ 24) = decide (s.size ≤ 24) by rw [decide_eq_decide]; omega]
   rfl
  ·rw [dF (show ¬ (s.size : Int) ≥ 1 by omega),dF h1]
   rfl
 ·cases h
theorem jo0 : jab Tryz.prog 122 E_cmpStr := ⟨⟨_,Tryz.func122,by kernel_rfl,by kernel_rfl⟩,fun ivs res bxs h => by
 unfold E_cmpStr at h
 split at h
 ·rename_i a b
  cases h
  refine jbE (ps := [.str a,.str b]) (v := .int .i64 (cmpS a b)) rfl fun w com vals hv _ => ?_
  obtain ⟨v,vs,rfl,hv1,hn⟩ := hv.of_cons
  obtain ⟨v2,vs2,rfl,hv2,hn2⟩ := hn.of_cons
  rw [hn2.of_nil]
  cases hv1
  cases hv2
  refine (jhb a b w).mono ?_
  rintro e w' ⟨rfl,rfl⟩
  unfold cmpS strLt
  rw [jcp,jcp]
  exact ⟨rfl,Below.refl _ _⟩
 ·cases h⟩
theorem twI {α : Type} (p : α → Bool) : ∀ (t : List α) (i : Nat),i ≤ (t.takeWhile p).length → (h : i < t.length) → p t[i] = decide (i < (t.takeWhile p).length)
 | [],i,_,h => by cases h
 | x :: t,0,h1,h => by
  rw [List.takeWhile_cons]
  cases hp : p x with
  | true => rw [List.getElem_cons_zero,hp]; simp
  | false => rw [List.getElem_cons_zero,hp]; simp
 | x :: t,i + 1,h1,h => by
  rw [List.takeWhile_cons] at h1 ⊢
  cases hp : p x with
  | true =>
   rw [hp] at h1
   simp only [if_pos,nqH] at h1 ⊢
   rw [List.getElem_cons_succ,twI p t i (by omega) (by simpa using h),decide_eq_decide]
   omega
  | false => rw [hp] at h1; simp at h1
theorem jwq {α : Type} (p : α → Bool) (t : List α) : (t.takeWhile p).length ≤ t.length := by
 have := congrArg List.length (List.takeWhile_append_dropWhile (p := p) (l := t))
 rw [nqG] at this
 omega
theorem jwW {w : World} {com : Nat → Nat} (h : Gl w com) : Tab w := by
 unfold Gl at h
 replace h := h.2
 obtain ⟨⟨t,f,hb⟩,_⟩ := h.1
 unfold Tab Lib.TabIs World.var?
 rw [tab_global]
 dsimp only [nqL]
 rw [hb]
theorem jn6 : jab Tryz.prog 148 E_collate := ⟨⟨_,Tryz.func148,by kernel_rfl,by kernel_rfl⟩,fun ivs res bxs h => by
 unfold E_collate at h
 split at h
 ·rename_i a b
  obtain ⟨hc,he⟩ := pick1 h
  cases he
  rw [nqE,decide_eq_true_eq,decide_eq_true_eq] at hc
  refine jaE (ps := [.str a,.str b]) (v := .int .i64 (coll a b)) rfl fun w com vals hv _ hgl => ?_
  obtain ⟨v,vs,rfl,hv1,hn⟩ := hv.of_cons
  obtain ⟨v2,vs2,rfl,hv2,hn2⟩ := hn.of_cons
  rw [hn2.of_nil]
  cases hv1
  cases hv2
  exact jk0 a b w (by omega) (by omega) (jwW hgl)
 ·cases h⟩
theorem jlc : jad Tryz.prog iab0 := ⟨jgZ,joV,jo0,jn6,trivial⟩
theorem jns : jab Tryz.prog 139 E_SubsOk1 := jac mix jlc (lp := []) (LO := LO0) ⟨Tryz.func139,by kernel_rfl,by kernel_rfl⟩ (by kernel_rfl) fun ivs res bxs h => by
 unfold E_SubsOk1 at h
 split at h
 ·rename_i s
  cases h
  exact ⟨jaq (by kernel_rfl),jjB s⟩
 ·cases h
theorem jpU : jad Tryz.prog iab1 := ⟨jns,jlc⟩
theorem jri (xs : List ByteArray) (h : shL xs) : ∀ (m i : Nat),m + i = ja2 xs → LoopsTo (rdB brC Tryz.prog iab1 jih jfM Tryz.f133 2 []) [aP (pL xs),aP (.clo 139 []),aI xs.length,aI i]
  (if ja2 xs < xs.length then (.ret,[aI (ja2 xs)]) else (.exit 0,[aX])) := by
 have hl := h.1
 have hle : ja2 xs ≤ xs.length := jwq _ _
 intro m
 induction m with
 | zero =>
  intro i hm
  obtain rfl : i = ja2 xs := by omega
  have tree := jiJ xs (ja2 xs)
  by_cases hi : ja2 xs < xs.length
  ·have hp : subB xs[ja2 xs] = false := (twI subB xs (ja2 xs) (Nat.le_refl _) hi).trans (decide_eq_false (Nat.lt_irrefl _))
   simp (disch := omega) only [dT,nqF,jao xs _ hi,nqH,List.headD_cons,PV.isStr,PV.asStr,blt0,Bool.and_true,hp] at tree
   rw [if_pos hi]
   exact .done _ _ tree
  ·rw [dF (by omega)] at tree
   rw [if_neg hi]
   exact .done _ _ tree
 | succ m ih =>
  intro i hm
  have hi : i < xs.length := by omega
  have hp : subB xs[i] = true := (twI subB xs i (by unfold ja2 at hm; omega) hi).trans (decide_eq_true (by unfold ja2 at hm; omega))
  have tree := jiJ xs i
  simp (disch := omega) only [dT,nqF,jao xs _ hi,nqH,List.headD_cons,PV.isStr,PV.asStr,blt0,wrap1,Bool.and_true,hp] at tree
  exact .step _ _ _ tree (ih (i + 1) (by omega))
theorem jt3 : jab Tryz.prog 133 E_IdxS := jac mix jpU (lp := jih) (LO := jfM) ⟨Tryz.func133,by kernel_rfl,by kernel_rfl⟩ (by kernel_rfl) fun ivs res bxs h => by
 unfold E_IdxS at h
 split at h
 ·rename_i p f
  obtain ⟨hc,he⟩ := pick1 h
  cases he
  rw [nqE] at hc
  obtain ⟨xs,rfl,hx⟩ := jak hc.1
  rw [nqB hc.2]
  refine ⟨jas 2 (by kernel_rfl) (by kernel_rfl) (by kernel_rfl) ?_,(joG xs).trans ?_⟩
  ·intro ls e ls' hl
   unfold jfM at hl
   split at hl
   ·rename_i p f n i
    cases hg : (isL p && Nat.beq f 139 && (n == ((asL p).length : Int)) && (i == 0)) with
    | false => rw [hg] at hl; simp only [pickA,Bool.false_and,cond_false] at hl; cases hl
    | true =>
     rw [hg,Bool.true_and] at hl
     simp only [nqE,beq_iff_eq] at hg
     obtain ⟨ys,rfl,hy⟩ := jak hg.1.1.1
     simp only [jaf] at hl hg
     rw [nqB hg.1.1.2,hg.1.2,hg.2]
     have := jri ys hy (ja2 ys) 0 (by omega)
     by_cases ha : ja2 ys < ys.length
     ·rw [if_pos ha] at this
      rw [dT ha] at hl
      cases hl; exact this
     ·rw [if_neg ha] at this
      rw [dF ha] at hl
      cases hl; exact this
   ·cases hl
  ·simp only [jaj hx,jaf,beq_self_eq_true,Bool.and_true,Nat.beq_refl,Bool.true_and]
   by_cases ha : ja2 xs < xs.length
   ·rw [dT ha,if_pos ha]; rfl
   ·rw [dF ha,if_neg ha]; rfl
 ·cases h
theorem joy : jad Tryz.prog iab2 := ⟨jt3,jpU⟩
theorem jqO : ∀ xs : List ByteArray,ja2 xs < xs.length ↔ xs.all subB = false
 | [] => by simp [ja2]
 | x :: xs => by
  unfold ja2
  rw [List.takeWhile_cons,List.all_cons]
  cases hp : subB x with
  | true =>
   have := jqO xs
   unfold ja2 at this
   simpa using this
  | false => simp
theorem juo : jab Tryz.prog 106 E_ConS := jac mix joy (lp := []) (LO := LO0) ⟨Tryz.func106,by kernel_rfl,by kernel_rfl⟩ (by kernel_rfl) fun ivs res bxs h => by
 unfold E_ConS at h
 split at h
 ·rename_i p f
  obtain ⟨hc,he⟩ := pick1 h
  cases he
  rw [nqE] at hc
  obtain ⟨xs,rfl,hx⟩ := jak hc.1
  rw [nqB hc.2]
  refine ⟨jaq (by kernel_rfl),(jqh xs).trans ?_⟩
  simp only [jaj hx,jaf,Nat.beq_refl,Bool.and_true]
  have hb := jqO xs
  cases ha : xs.all subB with
  | false => rw [if_pos (hb.2 ha),dT (by omega)]; rfl
  | true => rw [if_neg (fun h => by rw [hb.1 h] at ha; cases ha)]; rfl
 ·cases h
theorem joo : jad Tryz.prog iab3 := ⟨juo,joy⟩
theorem jm3 : jab Tryz.prog 118 E_ISubsOk := jac mix joo (lp := []) (LO := LO0) ⟨Tryz.func118,by kernel_rfl,by kernel_rfl⟩ (by kernel_rfl) fun ivs res bxs h => by
 unfold E_ISubsOk at h
 split at h
 ·rename_i p
  obtain ⟨hc,he⟩ := pick1 h
  cases he
  obtain ⟨xs,rfl,hx⟩ := jak hc
  refine ⟨jaq (by kernel_rfl),(jjR xs).trans ?_⟩
  simp only [jaj hx,jaf,Nat.beq_refl,Bool.and_true]
  unfold subsB
  by_cases h4 : xs.length ≤ 4
  ·rw [dT (show (xs.length : Int) ≤ 4 by omega),dT h4]
   cases xs.all subB <;> rfl
  ·rw [dF (show ¬ (xs.length : Int) ≤ 4 by omega),dF h4]
   rfl
 ·cases h
theorem jon : jad Tryz.prog iab4 := ⟨jm3,joo⟩
theorem jhf : jab Tryz.prog 90 E_locationOk := jac mix jon (lp := []) (LO := LO0) ⟨Tryz.func90,by kernel_rfl,by kernel_rfl⟩ (by kernel_rfl) fun ivs res bxs h => by
 unfold E_locationOk at h
 split at h
 ·rename_i s p
  obtain ⟨hc,he⟩ := pick1 h
  cases he
  rw [nqE] at hc
  obtain ⟨xs,rfl,hx⟩ := jak hc.2
  refine ⟨jaq (by kernel_rfl),(jfG s xs).trans ?_⟩
  simp only [jaj hx,jaf,hc.1]
  unfold jdb
  cases nameB s <;> rfl
 ·cases h
theorem joH : jad Tryz.prog iab5 := ⟨jhf,jon⟩
theorem jpy : jab Tryz.prog 95 E_nodeOk := jac mix joH (lp := []) (LO := LO0) ⟨Tryz.func95,by kernel_rfl,by kernel_rfl⟩ (by kernel_rfl) fun ivs res bxs h => by
 unfold E_nodeOk at h
 split at h
 ·rename_i p
  obtain ⟨hc,he⟩ := pick1 h
  cases he
  obtain ⟨x,rfl,hx⟩ := jae hc
  refine ⟨jaq (by kernel_rfl),(jlp x).trans ?_⟩
  simp only [jaj hx.2.1,jaf,jbA,dT hx.1]
  unfold nodeB
  rw [show decide ((x.value.size : Int) ≤ 64) = decide (x.value.size ≤ 64) by rw [decide_eq_decide]; omega]
  cases jdb x.name x.subs <;> rfl
 ·cases h
theorem joU (xs ys : List ByteArray) (h : shL xs) (k : shL ys) : ∀ (m i : Nat),m + i = xs.length → LoopsTo (rdB brC Tryz.prog iab0 jio jgk Tryz.f147 2 [])
  [aP (pL xs),aP (pL ys),aP (.clo 148 []),aP (pL xs),aI xs.length,aI i] (match collA (xs.drop i) (ys.drop i) with | some r => (.ret,[aP (pL xs),aP (pL ys),aI r]) | none => (.exit 0,[aP (pL xs),aP (pL ys),aX])) := by
 have hl := h.1
 intro m
 induction m with
 | zero =>
  intro i hm
  obtain rfl : i = xs.length := by omega
  rw [List.drop_length]
  refine .done _ _ ((ji4 xs ys xs.length).trans ?_)
  rw [dF (by omega)]
  rfl
 | succ m ih =>
  intro i hm
  have hi : i < xs.length := by omega
  have s1 := jl6 h hi
  rw [nqK hi]
  have tree := ji4 xs ys i
  by_cases hy : i < ys.length
  ·have s2 := jl6 k hy
   rw [nqK hy]
   unfold collA
   simp (disch := omega) only [dT,dF,nqF,jao xs i hi,jao ys i hy,nqH,List.headD_cons,PV.isStr,PV.asStr,blt0,wrap1,Bool.and_true] at tree
   by_cases hc : coll xs[i] ys[i] = 0
   ·rw [if_pos hc]
    rw [hc] at tree
    exact .step _ _ _ tree (ih (i + 1) (by omega))
   ·rw [if_neg hc]
    rw [bne_iff_ne.2 hc] at tree
    exact .done _ _ tree
  ·rw [List.drop_eq_nil_of_le (show ys.length ≤ i by omega)]
   simp (disch := omega) only [dT,dF,nqF,jao xs i hi,nqH,List.headD_cons,PV.isStr,PV.asStr,blt0,wrap1,Bool.and_true] at tree
   exact .done _ _ tree
theorem jpj : ∀ xs ys : List ByteArray,collL xs ys = match collA xs ys with | some r => r | none => if xs.length < ys.length then -1 else 0
 | [],[] => rfl
 | [],_ :: _ => by show -1 = if 0 < _ + 1 then (-1 : Int) else 0; rw [if_pos (Nat.succ_pos _)]
 | _ :: _,[] => rfl
 | a :: x,b :: y => by
  unfold collL collA
  by_cases hc : coll a b = 0
  ·rw [if_pos hc,if_pos hc,jpj x y]
   cases collA x y with
   | some r => rfl
   | none =>
    show (if x.length < y.length then (-1 : Int) else 0) = if x.length + 1 < y.length + 1 then -1 else 0
    by_cases hlt : x.length < y.length
    ·rw [if_pos hlt,if_pos (by omega)]
    ·rw [if_neg hlt,if_neg (by omega)]
  ·rw [if_neg hc,if_neg hc]
theorem jvs : jab Tryz.prog 147 E_CmpF := jac mix jlc (lp := jio) (LO := jgk) ⟨Tryz.func147,by kernel_rfl,by kernel_rfl⟩ (by kernel_rfl) fun ivs res bxs h => by
 unfold E_CmpF at h
 split at h
 ·rename_i p q f
  obtain ⟨hc,he⟩ := pick1 h
  cases he
  simp only [nqE] at hc
  obtain ⟨xs,rfl,hx⟩ := jak hc.1.1
  obtain ⟨ys,rfl,hy⟩ := jak hc.1.2
  rw [nqB hc.2]
  refine ⟨jas 2 (by kernel_rfl) (by kernel_rfl) (by kernel_rfl) ?_,(jqu xs ys).trans ?_⟩
  ·intro ls e ls' hl
   unfold jgk at hl
   split at hl
   ·rename_i p q f p' n i
    cases hg : (isL p && isL q && Nat.beq f 148 && eqP p' p && (n == ((asL p).length : Int)) && (i == 0)) with
    | false => rw [hg] at hl; simp only [pickA,Bool.false_and,cond_false] at hl; cases hl
    | true =>
     rw [hg,Bool.true_and] at hl
     simp only [nqE,beq_iff_eq] at hg
     obtain ⟨us,rfl,hu⟩ := jak hg.1.1.1.1.1
     obtain ⟨vs,rfl,hv⟩ := jak hg.1.1.1.1.2
     simp only [jaf] at hl hg
     rw [nqB hg.1.1.1.2,joh hg.1.1.2,hg.1.2,hg.2]
     have := joU us vs hu hv us.length 0 (by omega)
     rw [List.drop_zero,List.drop_zero] at this
     cases ha : collA us vs <;> rw [ha] at hl this <;> cases hl <;> exact this
   ·cases hl
  ·simp only [jaj hx,jaj hy,jaf,beq_self_eq_true,Bool.and_true,Nat.beq_refl,Bool.true_and,jtl,jpj xs ys]
   cases collA xs ys with
   | some r => rfl
   | none =>
    by_cases hlt : xs.length < ys.length
    ·rw [dT (show (xs.length : Int) < (ys.length : Int) by omega)]
     dsimp only
     rw [if_pos hlt]; rfl
    ·rw [dF (show ¬ (xs.length : Int) < (ys.length : Int) by omega)]
     dsimp only
     rw [if_neg hlt]; rfl
 ·cases h
theorem jo6 : jad Tryz.prog iab6 := ⟨jpy,jvs,joH⟩
theorem jiW : jab Tryz.prog 123 E_collLists := jac mix jo6 (lp := []) (LO := LO0) ⟨Tryz.func123,by kernel_rfl,by kernel_rfl⟩ (by kernel_rfl) fun ivs res bxs h => by
 unfold E_collLists at h
 split at h
 ·rename_i p q
  obtain ⟨hc,he⟩ := pick1 h
  cases he
  rw [nqE] at hc
  obtain ⟨xs,rfl,hx⟩ := jak hc.1
  obtain ⟨ys,rfl,hy⟩ := jak hc.2
  refine ⟨jaq (by kernel_rfl),(jgs xs ys).trans ?_⟩
  simp only [jaj hx,jaj hy,jaf]
  rfl
 ·cases h
theorem ok_Or : jab Tryz.prog 121 E_Or := jac mix (tab := []) trivial (lp := lp_Or) (LO := LO_Or) ⟨Tryz.func121,by kernel_rfl,by kernel_rfl⟩ (by kernel_rfl) fun ivs res bxs h => by
 unfold E_Or at h
 split at h
 ·rename_i a b
  cases h
  refine ⟨jas 3 (by kernel_rfl) (by kernel_rfl) (by kernel_rfl) ?_,(jvW a b).trans ?_⟩
  ·intro ls e ls' hl
   unfold LO_Or at hl
   split at hl
   ·rename_i a b
    have t0 := jk1 a b 0
    have t1 := jk1 a b 1
    have t2 := jk1 a b 2
    cases ha : (a != 0) with
    | true =>
     rw [ha] at hl
     cases hl
     have e0 : (PV.asInt (List.headD (List.drop (Int.toNat 0 * 1) [PV.int IntKind.i64 a,PV.int IntKind.i64 b]) PV.nilp) != 0) = true := ha
     rw [e0] at t0
     exact .done _ _ t0
    | false =>
     rw [ha] at hl
     have e0 : (PV.asInt (List.headD (List.drop (Int.toNat 0 * 1) [PV.int IntKind.i64 a,PV.int IntKind.i64 b]) PV.nilp) != 0) = false := ha
     rw [e0] at t0
     refine .step _ _ _ t0 ?_
     cases hb : (b != 0) with
     | true =>
      rw [hb] at hl
      cases hl
      have e1 : (PV.asInt (List.headD (List.drop (Int.toNat 1 * 1) [PV.int IntKind.i64 a,PV.int IntKind.i64 b]) PV.nilp) != 0) = true := hb
      rw [e1] at t1
      exact .done _ _ t1
     | false =>
      rw [hb] at hl
      cases hl
      have e1 : (PV.asInt (List.headD (List.drop (Int.toNat 1 * 1) [PV.int IntKind.i64 a,PV.int IntKind.i64 b]) PV.nilp) != 0) = false := hb
      rw [e1] at t1
      exact .step _ _ _ t1 (.done _ _ t2)
   ·cases hl
  ·unfold orI
   by_cases ha : a = 0
   ·subst ha
    rw [if_pos rfl]
    by_cases hb : b = 0
    ·subst hb; rfl
    ·rw [bne_iff_ne.2 hb]; rfl
   ·rw [if_neg ha,bne_iff_ne.2 ha]; rfl
 ·cases h
theorem jpG : jad Tryz.prog iab7 := ⟨jiW,ok_Or,jo6⟩
theorem jpA : jab Tryz.prog 96 E_cmpLoc := jac mix jpG (lp := []) (LO := LO0) ⟨Tryz.func96,by kernel_rfl,by kernel_rfl⟩ (by kernel_rfl) fun ivs res bxs h => by
 unfold E_cmpLoc at h
 split at h
 ·rename_i a p b q
  obtain ⟨hc,he⟩ := pick1 h
  cases he
  rw [nqE] at hc
  obtain ⟨xs,rfl,hx⟩ := jak hc.1
  obtain ⟨ys,rfl,hy⟩ := jak hc.2
  refine ⟨jaq (by kernel_rfl),(jkc a xs b ys).trans ?_⟩
  simp only [jaj hx,jaj hy,jaf]
  rfl
 ·cases h
theorem jvb : jad Tryz.prog iab8 := ⟨jpA,jpG⟩
def prevI (t : List NodeT) (i : Nat) : Option NodeT := if i = 0 then none else t[i - 1]?
theorem jjV (t : List NodeT) (h : shT t) : ∀ (m i : Nat),m + i = t.length → LoopsTo (rdB brC Tryz.prog iab8 jc6 jb5 Tryz.f61 4 []) [aBx 1 [.pv (pNs t)],aP (pNs t),aI t.length,aI i] (if jex (prevI t i) (t.drop i) = true then (.exit 0,[aX]) else (.ret,[aB false])) := by
 have hl := h.1
 intro m
 induction m with
 | zero =>
  intro i hm
  obtain rfl : i = t.length := by omega
  rw [List.drop_length]
  refine .done _ _ ((jeB t t.length).trans ?_)
  rw [dF (by omega)]
  rfl
 | succ m ih =>
  intro i hm
  have hi : i < t.length := by omega
  have hs := jeP h hi
  have ih' := ih (i + 1) (by omega)
  have hp1 : prevI t (i + 1) = some t[i] := by unfold prevI; rw [if_neg (by omega)]; simp [hi]
  rw [hp1] at ih'
  rw [nqK hi]
  unfold jex
  have tree := jeB t i
  simp (disch := omega) only [dT,nqF,jaW t i hi,nqH,List.headD_cons,List.tail_cons,PV.isStr,PV.asStr,PV.isSl,PV.slN,PV.slL,ble3,wrap1,Bool.and_true,jfT hs,jbA,jaf,jaj hs.2.1] at tree
  cases hn : nodeB t[i] with
  | false =>
   rw [hn] at tree
   simp only [Bool.false_and,if_neg Bool.false_ne_true]
   exact .done _ _ tree
  | true =>
   rw [hn] at tree
   by_cases h0 : i = 0
   ·subst h0
    have hp : prevI t 0 = none := rfl
    rw [hp]
    simp only [Bool.true_and]
    rw [dF (by omega)] at tree
    exact .step _ _ _ tree ih'
   ·have hj : i - 1 < t.length := by omega
    have hsj := jeP h hj
    have w1 : IntKind.wrap .i64 ((i : Int) - 1) = ((i - 1 : Nat) : Int) := by rw [wrapI (by omega) (by omega)]; omega
    have hp : prevI t i = some t[i - 1] := by unfold prevI; rw [if_neg h0]; simp [hj]
    rw [hp]
    simp (disch := omega) only [dT,w1,nqF,jaW t (i - 1) hj,List.drop_zero,List.drop_succ_cons,nqH,List.headD_cons,PV.isStr,PV.asStr,PV.isSl,PV.slN,PV.slL,blt0,Bool.and_true,jaf,jaj hsj.2.1] at tree
    dsimp only
    by_cases hlt : jey t[i - 1].name t[i - 1].subs t[i].name t[i].subs < 0
    ·rw [dF (show ¬ jey t[i - 1].name t[i - 1].subs t[i].name t[i].subs ≥ 0 by omega)] at tree
     simp only [dT hlt,Bool.true_and]
     exact .step _ _ _ tree ih'
    ·rw [dT (show jey t[i - 1].name t[i - 1].subs t[i].name t[i].subs ≥ 0 by omega)] at tree
     simp only [dF hlt,Bool.false_and,Bool.true_and,if_neg Bool.false_ne_true]
     exact .done _ _ tree
def E_ITreeOk : Entry := fun ivs => match ivs with | [.cv (.pv p)] => [(isT p,cB (treeB (asT p)),[])] | _ => []
theorem jnT : jab Tryz.prog 61 E_ITreeOk := jac mix jvb (lp := jc6) (LO := jb5) ⟨Tryz.func61,by kernel_rfl,by kernel_rfl⟩ (by kernel_rfl) fun ivs res bxs h => by
 unfold E_ITreeOk at h
 split at h
 ·rename_i p
  obtain ⟨hc,he⟩ := pick1 h
  cases he
  obtain ⟨t,rfl,ht⟩ := jae hc
  refine ⟨jas 4 (by kernel_rfl) (by kernel_rfl) (by kernel_rfl) ?_,(jjd t).trans ?_⟩
  ·intro ls e ls' hl
   unfold jb5 at hl
   split at hl
   ·rename_i x p p' n i
    cases hg : (isNs p && Nat.beq x 4096 && eqP p' p && (n == ((asNs p).length : Int)) && (i == 0)) with
    | false => rw [hg] at hl; simp only [pickA,Bool.false_and,cond_false] at hl; cases hl
    | true =>
     rw [hg,Bool.true_and] at hl
     simp only [nqE,beq_iff_eq] at hg
     obtain ⟨u,rfl,hu⟩ := jae hg.1.1.1.1
     simp only [jau] at hl hg
     rw [nqB hg.1.1.1.2,joh hg.1.1.2,hg.1.2,hg.2]
     have := jjV u hu u.length 0 (by omega)
     have e0 : prevI u 0 = none := rfl
     rw [e0,List.drop_zero] at this
     cases ha : jex none u <;> rw [ha] at hl this <;> cases hl <;> exact this
   ·cases hl
  ·simp only [jbt ht,jau,jaR,beq_self_eq_true,Bool.and_true,Bool.true_and,Nat.beq_refl,jtl]
   unfold treeB
   rw [jjF]
   by_cases h4 : t.length ≤ 120
   ·rw [dF (show ¬ (t.length : Int) > 120 by omega),dT h4]
    cases jb4 none t <;> rfl
   ·rw [dT (show (t.length : Int) > 120 by omega),dF h4]
    rfl
 ·cases h
end
section
open Go.RowKit Go.Shelf
attribute [local go_sem] Oper.semAt_some
set_option maxRecDepth 100000 in
set_option maxHeartbeats 2000000 in
theorem jmK (F : Fence) (n : Nat) (h7 : F.fn 155) (hro : F.round = none) (hn : 1 ≤ n) (l Bs n₀ b off cap : Nat) (zs : List ByteArray) (hreach : zs.length ≤ 1048576) (hb : b < n₀) (J Jx : List ByteArray → World → Prop)
  (hY : ∀ pre x W,J pre W → pre.length < zs.length → YieldAt F (n - 1) Tryz.prog l #[.string x] W fun e W' =>
   (e = .returned (.bool true) ∧ J (pre ++ [x]) W' ∧ Below n₀ W W') ∨ (e = .returned (.bool false) ∧ Jx (pre ++ [x]) W'))
  (W : World) (hBs : W.cell? ⟨Bs,0,none⟩ = some (.slice (some ⟨b,off,none⟩) zs.length cap)) (hc : ∀ j (h : j < zs.length),W.cell? ⟨b,off + j,none⟩ = some (.string zs[j])) (h0 : J [] W) :
  CallsIn F n Tryz.prog 155 #[.func (.yield l) #[] #[],.pointer (some ⟨Bs,0,none⟩)] W fun e W' => (∃ v,e = .returned v) ∧
   ((∃ ys,ys = zs ∧ J ys W') ∨ (∃ pre,pre <+: zs ∧ Jx pre W')) := by
 refine callsIn_of_wp Tryz.func155 rfl h7 ?_ hro
 simp only [Tryz.ntmps155,List.size_toArray,nqH,List.length_nil,Nat.reduceAdd,Nat.reduceSub,Array.replicate_succ,Array.replicate_zero,List.push_toArray,List.append_toArray,List.nil_append,List.cons_append]
 gi_wp2
 gi_loopw [7] (fun i wr => ∃ k : Nat,k ≤ zs.length ∧ i = .int .i64 k ∧ J (zs.take k) wr ∧ Below n₀ W wr)
  (fun i _ => zs.length - (intOf i).toNat)
 case atStart => exact ⟨0,Nat.zero_le _,rfl,h0,Below.refl _ _⟩
 case round =>
  obtain ⟨k,hk,rfl,hJs,hnx⟩ := hrel
  by_cases hlt : k < zs.length
  ·have hcx : wr.cell? ⟨b,off + k,none⟩ = some (.string zs[k]) := (hnx.cell (p := ⟨b,off + k,none⟩) hb).trans (hc k hlt)
   obtain ⟨fn,tmps,assign,body,hy,hR⟩ := hY _ zs[k] wr hJs (by rw [List.length_take]; omega)
   have hts : zs.take k ++ [zs[k]] = zs.take (k + 1) := (List.take_succ_eq_append_getElem hlt).symm
   have HTS := Lib.hid hts
   clear hts
   gi_wp2
   refine hR.mono ?_
   rintro e W3 (⟨rfl,hJ3,hk3⟩ | ⟨rfl,hJx3⟩)
   ·gi_wp2
    go_roundw
    case rel => exact ⟨k + 1,by omega,by simp,by rw [← HTS.out]; exact hJ3,hnx.trans hk3⟩
    case measure => simp [intOf]; omega
   ·gi_wp2
    refine bodyPost_ret (results_none rfl _ _ _) rfl ?_
    exact ⟨⟨_,rfl⟩,.inr ⟨_,by rw [HTS.out]; exact List.take_prefix _ _,hJx3⟩⟩
  ·obtain rfl : k = zs.length := by omega
   gi_wp2
   go_end0
   exact ⟨⟨_,rfl⟩,.inl ⟨_,List.take_length,hJs⟩⟩
set_option maxRecDepth 100000 in
set_option maxHeartbeats 1000000 in
theorem jgr (F : Fence) (n : Nat) (h7 : F.fn 155) (hro : F.round = none) (l Bs : Nat) (a : Option Addr) (cap : Nat) (J : List ByteArray → World → Prop) (W : World) (hBs : W.cell? ⟨Bs,0,none⟩ = some (.slice a 0 cap)) (h0 : J [] W) :
  CallsIn F n Tryz.prog 155 #[.func (.yield l) #[] #[],.pointer (some ⟨Bs,0,none⟩)] W fun e W' => (∃ v,e = .returned v) ∧ J [] W' := by
 refine callsIn_of_wp Tryz.func155 rfl h7 ?_ hro
 simp only [Tryz.ntmps155,List.size_toArray,nqH,List.length_nil,Nat.reduceAdd,Nat.reduceSub,Array.replicate_succ,Array.replicate_zero,List.push_toArray,List.append_toArray,List.nil_append,List.cons_append]
 gi_wp2
 gi_loopw [7] (fun i wr => i = .int .i64 0 ∧ J [] wr) (fun _ _ => 0)
 case atStart => exact ⟨rfl,h0⟩
 case round =>
  obtain ⟨rfl,hJs⟩ := hrel
  gi_wp2
  go_end0
  exact ⟨⟨_,rfl⟩,hJs⟩
set_option maxHeartbeats 1000000 in
theorem jqF (F : Fence) (n : Nat) (h5 : F.fn 131) (hro : F.round = none) (a : Option Addr) (len cap : Nat) (w : World) :
  CallsIn F n Tryz.prog 131 #[.slice a len cap] w fun e w' => e = .returned (.func (.func 155) #[] #[.pointer (some ⟨w.heap.size,0,none⟩)]) ∧ w' = w.alloc (.cells #[.slice a len cap] 25) := by
 refine callsIn_of_wp Tryz.func131 rfl h5 ?_ hro
 simp only [Tryz.ntmps131,List.size_toArray,nqH,List.length_nil,Nat.reduceAdd,Nat.reduceSub,Array.replicate_succ,Array.replicate_zero,List.push_toArray,List.append_toArray,List.nil_append,List.cons_append]
 gi_wp2
 go_ret
 exact ⟨rfl,rfl⟩
theorem jjX (F : Fence) (n : Nat) (h7 : F.fn 155) (hro : F.round = none) (hn : 1 ≤ n) (Bs n₀ : Nat) (a : Option Addr) (cap : Nat) (zs : List ByteArray) (hreach : zs.length ≤ 1048576) (w : World) (hBs : Bs < w.heap.size) (hn₀ : n₀ ≤ w.heap.size)
  (hc : w.cell? ⟨Bs,0,none⟩ = some (.slice a zs.length cap)) (hI : RowAt w n₀ a (jat zs)) :
  SeqStopsK F n Tryz.prog 155 #[.pointer (some ⟨Bs,0,none⟩)] (fun x : ByteArray => #[Value.string x]) (Below n₀) (fun ys => ys = zs) (fun pre => pre <+: zs) zs.length w := fun l J Jx W hW _ _ hY h0 => by
 have hc' := (hW.cell (p := ⟨Bs,0,none⟩) hBs).trans hc
 rcases Nat.eq_zero_or_pos zs.length with hz | hpos
 ·have : zs = [] := List.eq_nil_of_length_eq_zero hz
  subst this
  exact (jgr F n h7 hro l Bs a cap J W hc' h0).mono fun e W' ⟨he,hj⟩ => ⟨he,.inl ⟨_,rfl,hj⟩⟩
 ·obtain ⟨b,off,rfl,hb,hcs⟩ := (hI.below (hW.mono hn₀)).str hpos
  exact jmK F n h7 hro hn l Bs n₀ b off cap zs hreach hb J Jx hY W hc' hcs h0
set_option maxRecDepth 100000 in
set_option maxHeartbeats 2000000 in
theorem jiE (F : Fence) (n : Nat) (h3 : F.fn 172) (h7 : F.fn 155) (hro : F.round = none) (hn : 3 ≤ n) (Bs : Nat) (a : Option Addr) (cap : Nat) (zs : List ByteArray) (hreach : zs.length ≤ 1048576) (w : World) (hBs : Bs < w.heap.size)
  (hcB : w.cell? ⟨Bs,0,none⟩ = some (.slice a zs.length cap)) (hI : RowAt w w.heap.size a (jat zs)) :
  CallsIn F n Tryz.prog 172 #[.slice none 0 0,.func (.func 155) #[] #[.pointer (some ⟨Bs,0,none⟩)]] w fun e W' => ∃ v,e = .returned v ∧ W'.ownsRow w.heap.size 9 1 v zs.length (jat zs) ∧ Below w.heap.size w W' := by
 have h1 : 1 ≤ n := by omega
 obtain ⟨i0,hi,hz0,hz1,hz2⟩ := info_parts jkA
 refine callsIn_of_wp_marks Tryz.func172 rfl h3 ?_ hro
 simp only [Tryz.ntmps172,List.size_toArray,nqH,List.length_nil,Nat.reduceAdd,Nat.reduceSub,Array.replicate_succ,Array.replicate_zero,List.push_toArray,List.append_toArray,List.nil_append,List.cons_append]
 gi_wp2
 have bO := Boxed.new w 25 (.slice none 0 0)
 have hB0 : Below w.heap.size w (w.alloc (.cells #[.slice none 0 0] 25)) := (Below.refl _ w).alloc (Nat.le_refl _) _
 refine wpIn_rangeFunc_ownG hro h1 (gf := 155) (lb := #[.pointer (some ⟨Bs,0,none⟩)]) rfl h7 (enters_of Tryz.func155 (by kernel_rfl) rfl)
  (jjX F (n - 1) h7 hro (by omega) Bs w.heap.size a cap zs hreach _ (by simp; omega) (by simp) ((hB0.cell (p := ⟨Bs,0,none⟩) hBs).trans hcB) (hI.below hB0)) belowK_t (belowK_b (by simp)) (Below.refl _ _) (fun _ => rfl)
  (fun pre W => (∃ v,Boxed W w.heap.size 25 v ∧ W.ownsRow w.heap.size 9 1 v pre.length (jat pre) ∧ True) ∧ Below w.heap.size w W)
  (fun _ _ _ => False)
  (OwnFrom.and (Own.from (holdsRow_own w.heap.size w.heap.size 25 9 1 (fun pre => pre.length) (fun pre => jat pre) (fun _ _ => True)) _) (ownFrom_below (Nat.le_refl _) (by simp)))
  (fun _ _ _ _ _ hs _ _ => hs)
  ⟨⟨_,bO,World.ownsRow_nil _ _ _ _,trivial⟩,hB0⟩
  (fun x => { tmps := #[.slice none 0 0,.func (.func 155) #[] #[.pointer (some ⟨Bs,0,none⟩)],.pointer (some ⟨w.heap.size,0,none⟩),undef,.slice none 0 0,.string x,.func (.func 155) #[] #[.pointer (some ⟨Bs,0,none⟩)],.string x,undef,undef,undef,undef,undef],defers := [] }) ?assign ?body ?done ?stop
 case assign =>
  intro l x W K hK
  gi_wp2
  exact hK
 case body =>
  rintro l pre x W ⟨⟨v,hv,hrow,_⟩,hB⟩ hlt
  have hc := hv.cell
  gi_wp2_with (gi_at_builtin; refine wpListIn_append_own _ rfl _ _ 25 rfl w.heap.size 9 i0 (.string ⟨#[]⟩) 1 16 Tryz.underlying25 hi hz0 hz1 hz2 rfl (by decide) _ _ _ rfl (hrow.alloc _) ⟨W.heap.size,0,none⟩ 1 1 [.string x] rfl rfl (cell_one_new _ _ _) (by simp [Value.oneCell']) (by unfold maxLen; omega) (by omega) (by have := hB.size; simp; omega) ?_; intro v' w1 hown' hgrow _; obtain ⟨g',cap',rfl⟩ := ownsRow_succ hown'; obtain ⟨hv1,hv2,hr2,hk2,hb2⟩ := hv.appended (by decide) hrow hB.size (Nat.le_refl _) hown' hgrow; have hc1 := hv1.cell; have hf1 := hv1.frozen)
  exact ⟨hk2.from _,hb2,⟨_,hv2,by simpa [jat] using hr2,trivial⟩,hB.trans hb2⟩
 case done =>
  rintro D ys W hD rfl ⟨⟨v,hv,hrow,_⟩,hB⟩ hK
  have hc := hv.cell
  gi_wp2
  refine ⟨by simp,.inl ⟨_,_,rfl,run_takeDeferred hK,?_⟩⟩
  exact ⟨_,results_tmp rfl _ _ _,v,rfl,ownsRow_putObj hrow _ hK rfl,hB.trans (belowK_b (w := w) (Nat.le_refl _) W D _ _ (by simp at hD; omega) hK rfl rfl)⟩
 case stop =>
  rintro D c pre W _ _ h _
  exact h.elim
end
section
abbrev leStr (x y : List UInt8) : Bool := decide (x ≤ y)
theorem jki (a b c : List UInt8) (h1 : leStr a b = true) (h2 : leStr b c = true) : leStr a c = true := by
 simp only [leStr,decide_eq_true_eq] at *
 exact List.le_trans h1 h2
theorem jll (a b : List UInt8) : (leStr a b || leStr b a) = true := by
 simp only [leStr,Bool.or_eq_true,decide_eq_true_eq]
 exact List.le_total a b
theorem jge (s : List (List UInt8)) : (Lib.compact s).length = s.length ↔ ∀ j (h : j < s.length),0 < j → s[j] ≠ s[j - 1]'(by omega) := by
 unfold Lib.compact Lib.compactUpTo
 rw [List.length_map]
 have key : ((List.range s.length).filter (Lib.keeps s.toArray)).length = s.length ↔ ∀ a ∈ List.range s.length,Lib.keeps s.toArray a = true := by
  have := List.length_filter_eq_length_iff (p := Lib.keeps s.toArray) (l := List.range s.length)
  rwa [List.length_range] at this
 rw [key]
 constructor
 ·intro h j hj h0 he
  have := h j (by simpa using hj)
  rw [Lib.keeps_neg h0 (by simp [hj,show j - 1 < s.length by omega]; exact he)] at this
  cases this
 ·intro h
  intro j hj
  have hj' : j < s.length := by simpa using hj
  by_cases h0 : j = 0
  ·subst h0; simp [Lib.keeps]
  ·refine Lib.keeps_pos ?_
   simp [hj',show j - 1 < s.length by omega]
   exact h j hj' (by omega)
theorem jjY (s : List (List UInt8)) (hs : s.Pairwise (fun a b => leStr a b = true)) : (∀ j (h : j < s.length),0 < j → s[j] ≠ s[j - 1]'(by omega)) ↔ s.Nodup := by
 constructor
 ·intro h
  rw [List.nodup_iff_pairwise_ne,List.pairwise_iff_getElem]
  intro i j hi hj hij he
  rw [List.pairwise_iff_getElem] at hs
  have h1 : leStr s[j - 1] s[j] = true := hs (j - 1) j (by omega) hj (by omega)
  have h2 : leStr s[i] (s[j - 1]'(by omega)) = true := by
   by_cases e : i = j - 1
   ·subst e
    simp [leStr]
   ·exact hs i (j - 1) hi (by omega) (by omega)
  rw [he] at h2
  simp only [leStr,decide_eq_true_eq] at h1 h2
  exact h j hj (by omega) (List.le_antisymm h2 h1)
 ·intro h j hj h0 he
  rw [List.nodup_iff_pairwise_ne,List.pairwise_iff_getElem] at h
  exact h (j - 1) j (by omega) hj (by omega) he.symm
theorem jiL (ss : List (List UInt8)) : (Lib.compact (ss.mergeSort fun x y => decide (x ≤ y))).length = ss.length ↔ ss.Nodup := by
 have hp := List.mergeSort_perm ss leStr
 rw [← hp.length_eq,jge,jjY _ (List.pairwise_mergeSort jki jll ss)]
 exact hp.nodup_iff
end
section
open Go.RowKit Go.Shelf Go.Sort
def lists (zs : List ByteArray) : List (List UInt8) := zs.map (·.data.toList)
theorem jbl (zs : List ByteArray) : (lists zs).length = zs.length := by simp [lists]
theorem jpL (zs : List ByteArray) : (lists zs).map encStr = jat zs := by
 unfold lists jat
 rw [List.map_map]
 exact List.map_congr_left fun x _ => by simp [encStr]
theorem jgf (zs : List ByteArray) : (lists zs).Nodup ↔ zs.Nodup := by
 unfold lists
 rw [List.nodup_iff_pairwise_ne,List.nodup_iff_pairwise_ne,List.pairwise_map]
 constructor
 ·intro h
  exact h.imp fun hab e => hab (by rw [e])
 ·intro h
  exact h.imp fun {a b} hab e => hab (by
   obtain ⟨⟨x⟩⟩ := a
   obtain ⟨⟨y⟩⟩ := b
   simpa using e)
set_option maxHeartbeats 1000000 in
theorem jmP (F : Fence) (n : Nat) (h : F.fn 153) (h3 : F.fn 172) (h7 : F.fn 155) (hro : F.round = none) (hn : 4 ≤ n) (Bs : Nat) (a : Option Addr) (cap : Nat) (zs : List ByteArray) (hreach : zs.length ≤ 1048576) (w : World) (hBs : Bs < w.heap.size)
  (hcB : w.cell? ⟨Bs,0,none⟩ = some (.slice a zs.length cap)) (hI : RowAt w w.heap.size a (jat zs)) :
  CallsIn F n Tryz.prog 153 #[.func (.func 155) #[] #[.pointer (some ⟨Bs,0,none⟩)]] w fun e W' => ∃ v,e = .returned v ∧ W'.ownsRow w.heap.size 9 1 v zs.length (jat zs) ∧ Below w.heap.size w W' := by
 have h1 : 1 ≤ n := by omega
 refine callsIn_of_wp Tryz.func153 rfl h ?_ hro
 simp only [Tryz.ntmps153,List.size_toArray,nqH,List.length_nil,Nat.reduceAdd,Nat.reduceSub,Array.replicate_succ,Array.replicate_zero,List.push_toArray,List.append_toArray,List.nil_append,List.cons_append]
 gi_wp2_with (gi_at_call 172; refine (jiE F (n - 1) h3 h7 hro (by omega) Bs a cap zs hreach _ hBs hcB hI).mono ?_; rintro e w' ⟨v,rfl,hrow,hb⟩)
 go_ret
 exact ⟨v,rfl,hrow,hb⟩
set_option maxRecDepth 100000 in
set_option maxHeartbeats 2000000 in
theorem jrm (n : Nat) (hn : 5 ≤ n) (Bs : Nat) (a : Option Addr) (cap : Nat) (zs : List ByteArray) (hreach : zs.length ≤ 1048576) (w : World) (hBs : Bs < w.heap.size)
  (hcB : w.cell? ⟨Bs,0,none⟩ = some (.slice a zs.length cap)) (hI : RowAt w w.heap.size a (jat zs)) :
  CallsIn Fence.wide n Tryz.prog 130 #[.func (.func 155) #[] #[.pointer (some ⟨Bs,0,none⟩)]] w fun e W' => ∃ v,e = .returned v ∧
   W'.ownsRow w.heap.size 9 1 v zs.length (((lists zs).mergeSort fun x y => decide (x ≤ y)).map encStr) ∧ Below w.heap.size w W' := by
 have h1 : 1 ≤ n := by omega
 have hfC : Fence.wide.fn 153 := trivial
 have hfS : Fence.wide.fn 154 := trivial
 refine callsIn_of_wp Tryz.func130 rfl trivial ?_ rfl
 simp only [Tryz.ntmps130,List.size_toArray,nqH,List.length_nil,Nat.reduceAdd,Nat.reduceSub,Array.replicate_succ,Array.replicate_zero,List.push_toArray,List.append_toArray,List.nil_append,List.cons_append]
 gi_wp2_with (gi_at_call 153; refine (jmP Fence.wide (n - 1) trivial trivial trivial rfl (by omega) Bs a cap zs hreach _ hBs hcB hI).mono ?_; rintro e W ⟨v,rfl,hrow,hb⟩)
 rcases hrow.2 with ⟨rfl,hz⟩ | ⟨gb,cap',cur,rfl,hbase,hgb,r1,r2,r3,r4⟩
 ·have hss : zs = [] := List.eq_nil_of_length_eq_zero hz
  subst hss
  gi_wp2_with (gi_at_call 154; refine (callsIn_wide.2 (Tryz.slices_Sort_string_none none 0 W)).mono ?_; rintro e w' ⟨rfl,rfl⟩)
  go_ret
  exact ⟨.slice none 0 0,rfl,by simpa [lists,jat] using hrow,hb⟩
 ·have hH : Holds encStr W gb 0 (lists zs).toArray := holds_of_block hgb (by rw [← jpL] at r4; simpa [lists] using r4)
  have hgl : gb < W.heap.size := (Array.getElem?_eq_some_iff.1 hgb).1
  have cS := callsIn_wide (n := n - 1) |>.2 (Tryz.slices_Sort_string gb 0 cap' (lists zs) W hH hgl (by rw [jbl]; omega))
  rw [jbl] at cS
  gi_wp2_with (gi_at_call 154; refine cS.mono ?_; rintro e w' ⟨rfl,nn,os,rfl⟩)
  go_ret
  have hso := ownsRow_sorted (n := nn) (os := os) (ss := lists zs) (ts := (lists zs).mergeSort fun x y => decide (x ≤ y)) (by rw [List.length_mergeSort]) hbase hgb (by rw [jbl]; exact r1) r2 r3
  rw [jbl] at hso
  exact ⟨_,rfl,hso,hb.grown (grownBy_sorted _) hb.size (fun j hj => by cases hj; exact hbase)⟩
set_option maxRecDepth 100000 in
set_option maxHeartbeats 2000000 in
theorem jiO (zs : List ByteArray) (a : Option Addr) (c : Nat) (r : Bool) (hr : decide zs.Nodup = r) (w : World) (hreach : zs.length ≤ 1048576) (hI : RowAt w w.heap.size a (jat zs)) :
  Calls Tryz.prog 105 #[.slice a zs.length c] w fun e W' => e = .returned (.bool r) ∧ Below w.heap.size w W' := by
 refine (callsIn_wide (n := 8)).1 ?_
 have HI := Lib.hid hI
 have HR := Lib.hid hr
 clear hI hr
 have hlaw := Lib.hid (jiL (lists zs))
 have hfV : Fence.wide.fn 131 := trivial
 have hfS : Fence.wide.fn 130 := trivial
 have hfC : Fence.wide.fn 132 := trivial
 refine callsIn_of_wp Tryz.func105 rfl trivial ?_ rfl
 simp only [Tryz.ntmps105,List.size_toArray,nqH,List.length_nil,Nat.reduceAdd,Nat.reduceSub,Array.replicate_succ,Array.replicate_zero,List.push_toArray,List.append_toArray,List.nil_append,List.cons_append]
 gi_wp2_with (first
  | (gi_at_call 131; refine (jqF Fence.wide 7 trivial rfl _ _ _ _).mono ?_; rintro e w' ⟨rfl,rfl⟩)
  | (gi_at_call 130; refine (jrm 7 (by omega) w.heap.size a c zs hreach _ (by simp) (by simp) ((HI.out.alloc (Nat.le_refl _) _).more (by simp))).mono ?_; rintro e W ⟨v,rfl,hrow,hb⟩))
 have hbw : Below w.heap.size w W := ((Below.refl _ w).alloc (Nat.le_refl _) _).trans (hb.mono (by simp))
 rcases hrow.2 with ⟨rfl,hz⟩ | ⟨gb,cap',cur,rfl,hbase,hgb,r1,r2,r3,r4⟩
 ·have hss : zs = [] := List.eq_nil_of_length_eq_zero hz
  subst hss
  obtain rfl : r = true := by rw [← HR.out]; simp
  gi_wp2_with (gi_at_call 132; refine (callsIn_wide.2 (Tryz.slices_Compact_string_empty none 0 W)).mono ?_; rintro e w' ⟨rfl,rfl⟩)
  go_ret
  exact ⟨rfl,hbw⟩
 ·obtain ⟨ts,hts⟩ : ∃ ts,ts = (lists zs).mergeSort fun x y => decide (x ≤ y) := ⟨_,rfl⟩
  rw [← hts] at hlaw r4
  have htl : ts.length = zs.length := by rw [hts,List.length_mergeSort,jbl]
  have hH : Holds encStr W gb 0 ts.toArray := holds_of_block hgb (by rw [htl]; simpa using r4)
  have cC := callsIn_wide (n := 7) |>.2 (Tryz.slices_Compact_string gb 0 cap' ts W hH (by omega) (by omega))
  obtain ⟨m,hm⟩ : ∃ m,m = (Lib.compact ts).length := ⟨_,rfl⟩
  rw [htl,← hm] at cC
  rw [← hm,jbl] at hlaw
  have hml : m ≤ 1048576 := by have := Lib.compact_length_le ts; omega
  have hgl : w.heap.size ≤ gb := by simp at hbase; omega
  have q1 : ((m : Int) == (zs.length : Int)) = r := by
   rw [← HR.out]
   by_cases e : m = zs.length
   ·rw [decide_eq_true ((jgf zs).1 (hlaw.out.1 e))]
    simp [e]
   ·rw [decide_eq_false (fun hnd => e (hlaw.out.2 ((jgf zs).2 hnd)))]
    exact beq_eq_false_iff_ne.2 (by omega)
  clear hts hm hlaw hrow r4 hH
  gi_wp2_with (gi_at_call 132; refine cC.mono ?_; rintro e w' ⟨rfl,q,rfl⟩)
  go_ret
  exact ⟨rfl,Lib.below_putRow hbw hgl⟩
end
section
open Go.RowKit
def E_icell : Entry := fun ivs => match ivs with | [.cv (.pv (.str s))] => [(decide (s.size ≤ 1048576),cB (cellB s),[])] | _ => []
def E_dist : Entry := fun ivs => match ivs with | [.cv (.pv p)] => [(isL p,cB (jcL (asL p)),[])] | _ => []
def E_count : Entry := fun ivs => match ivs with | [.cv (.pv p)] => [(isL p,cI (asL p).length,[])] | _ => []
def jt9 (br : Br) (xs : List ByteArray) := evB br Tryz.prog [] [] LO0 Tryz.f104 [cP (pL xs)]
def pab0 : List (FuncId × Entry) := (102,E_INameOk) :: [(125,E_icell)]
def E_cloTa : Entry := fun ivs => match ivs with | [.cv (.pv (.str x))] => [(decide (x.size ≤ 1048576),cB (!nameB x),[])] | _ => []
def ju6 (br : Br) (x : ByteArray) := evB br Tryz.prog pab0 [] LO0 Tryz.f107 [cS x]
def E_cloRb : Entry := fun ivs => match ivs with | [.cv (.pv (.str x))] => [(decide (x.size ≤ 1048576),cB (!cellB x),[])] | _ => []
def jvf (br : Br) (x : ByteArray) := evB br Tryz.prog pab0 [] LO0 Tryz.f124 [cS x]
def pab1 : List (FuncId × Entry) := (107,E_cloTa) :: (124,E_cloRb) :: pab0
def jaL (xs : List ByteArray) : Nat := idxW (fun x => !nameB x) xs
def jdC : LoopT := fun _ ls => match ls with
 | [(.pv p,none),(.pv (.clo f []),none),(.pv (.int .i64 n),none),(.pv (.int .i64 i),none)] =>
  [(isL p && Nat.beq f 107 && (n == ((asL p).length : Int)) && (i == 0) && decide (jaL (asL p) < (asL p).length),.ret,[aI (jaL (asL p))]),
   (isL p && Nat.beq f 107 && (n == ((asL p).length : Int)) && (i == 0),.exit 0,[aX])]
 | _ => []
def jtS (br : Br) (xs : List ByteArray) (i : Int) := rdB br Tryz.prog pab1 ja5 jdC Tryz.f133 2 [] [aP (pL xs),aP (.clo 107 []),aI xs.length,aI i]
def jtT (br : Br) (xs : List ByteArray) := evB br Tryz.prog pab1 ja5 jdC Tryz.f133 [cP (pL xs),cP (.clo 107 [])]
def E_IdxTa : Entry := fun ivs => match ivs with
 | [.cv (.pv p),.cv (.pv (.clo f []))] => [(isL p && Nat.beq f 107,cI (if jaL (asL p) < (asL p).length then jaL (asL p) else -1),[])]
 | _ => []
def pab2Ta : List (FuncId × Entry) := (133,E_IdxTa) :: pab1
def jte (br : Br) (xs : List ByteArray) := evB br Tryz.prog pab2Ta [] LO0 Tryz.f106 [cP (pL xs),cP (.clo 107 [])]
def E_ContTa : Entry := fun ivs => match ivs with
 | [.cv (.pv p),.cv (.pv (.clo f []))] => [(isL p && Nat.beq f 107,cB (decide (jaL (asL p) < (asL p).length)),[])]
 | _ => []
def jaK (xs : List ByteArray) : Nat := idxW (fun x => !cellB x) xs
def jd6 : LoopT := fun _ ls => match ls with
 | [(.pv p,none),(.pv (.clo f []),none),(.pv (.int .i64 n),none),(.pv (.int .i64 i),none)] =>
  [(isL p && Nat.beq f 124 && (n == ((asL p).length : Int)) && (i == 0) && decide (jaK (asL p) < (asL p).length),.ret,[aI (jaK (asL p))]),
   (isL p && Nat.beq f 124 && (n == ((asL p).length : Int)) && (i == 0),.exit 0,[aX])]
 | _ => []
def juO (br : Br) (xs : List ByteArray) (i : Int) := rdB br Tryz.prog pab1 ja5 jd6 Tryz.f133 2 [] [aP (pL xs),aP (.clo 124 []),aI xs.length,aI i]
def jvP (br : Br) (xs : List ByteArray) := evB br Tryz.prog pab1 ja5 jd6 Tryz.f133 [cP (pL xs),cP (.clo 124 [])]
def E_IdxRb : Entry := fun ivs => match ivs with
 | [.cv (.pv p),.cv (.pv (.clo f []))] => [(isL p && Nat.beq f 124,cI (if jaK (asL p) < (asL p).length then jaK (asL p) else -1),[])]
 | _ => []
def pab2Rb : List (FuncId × Entry) := (133,E_IdxRb) :: pab1
def jsw (br : Br) (xs : List ByteArray) := evB br Tryz.prog pab2Rb [] LO0 Tryz.f106 [cP (pL xs),cP (.clo 124 [])]
def E_ContRb : Entry := fun ivs => match ivs with
 | [.cv (.pv p),.cv (.pv (.clo f []))] => [(isL p && Nat.beq f 124,cB (decide (jaK (asL p) < (asL p).length)),[])]
 | _ => []
def E_ContAB : Entry := fun ivs => match ivs with
 | [.cv (.pv p),.cv (.pv (.clo f []))] => [(isL p && Nat.beq f 107,cB (decide (jaL (asL p) < (asL p).length)),[]),(isL p && Nat.beq f 124,cB (decide (jaK (asL p) < (asL p).length)),[])]
 | _ => []
def pab3 : List (FuncId × Entry) := (103,E_within) :: (104,E_count) :: (105,E_dist) :: (106,E_ContAB) :: (100,E_IndexS) :: pab0
abbrev jlR : List (Nat × List Nat × List Nat) := [(7,[1,3,34,35,36],[2])]
def jjr : LoopT := fun _ ls => match ls with
 | [(.ptr x 0,some (.box [.pv (.str s),.pv (.str g),.pv p,.pv q])),(.pv (.int .i64 at_),none),(.pv r,none),(.pv (.int .i64 n),none),(.pv (.int .i64 i),none)] =>
  [(isL p && isL r && (n == ((asL r).length : Int)) && (at_ == 0) && (i == 0) && Nat.beq x 4096 && !idxB (asL p) (asL r) 0,.ret,[aB false]),(isL p && isL r && (n == ((asL r).length : Int)) && (at_ == 0) && (i == 0) && Nat.beq x 4096,.exit 0,[aX])]
 | _ => []
def r_ITb (br : Br) (s g : ByteArray) (xs zs : List ByteArray) (q : PV) (a n i : Int) := rdB br Tryz.prog pab3 jlR jjr Tryz.f73 7 [] [aBx 1 [.pv (.str s),.pv (.str g),.pv (pL xs),.pv q],aI a,aP (pL zs),aI n,aI i]
def q_ITb (br : Br) (b : TblT) := evB br Tryz.prog pab3 jlR jjr Tryz.f73 [cP (pTb b)]
end
section
theorem jg9 (xs : List ByteArray) (i : Int) : jtS brC xs i = brC (decide (i < (↑xs.length : Int))) (brC (decide (0 ≤ i) && decide (i < (↑xs.length : Int))) (brC (Nat.blt 0 (List.length (List.drop (Int.toNat i * 1) (List.map PV.str xs))) && PV.isStr (List.headD (List.drop (Int.toNat i * 1) (List.map PV.str xs)) PV.nilp) && true) (brC (decide (ByteArray.size (PV.asStr (List.headD (List.drop (Int.toNat i * 1) (List.map PV.str xs)) PV.nilp)) ≤ 1048576)) (brC (!nameB (PV.asStr (List.headD (List.drop (Int.toNat i * 1) (List.map PV.str xs)) PV.nilp))) (some (.inr (.ret,[(.pv (.int .i64 i),none)]))) (some (.inl [(.pv (.sl xs.length (List.map PV.str xs)),none),(.pv (PV.clo 107 []),none),(.pv (.int .i64 (↑xs.length : Int)),none),(.pv (.int .i64 (IntKind.wrap .i64 (i + 1))),none)]))) none) none) none) (some (.inr (.exit 0,[(.bad,none)]))) := by kernel_rfl
theorem jgV (xs : List ByteArray) (i : Int) : juO brC xs i = brC (decide (i < (↑xs.length : Int))) (brC (decide (0 ≤ i) && decide (i < (↑xs.length : Int))) (brC (Nat.blt 0 (List.length (List.drop (Int.toNat i * 1) (List.map PV.str xs))) && PV.isStr (List.headD (List.drop (Int.toNat i * 1) (List.map PV.str xs)) PV.nilp) && true) (brC (decide (ByteArray.size (PV.asStr (List.headD (List.drop (Int.toNat i * 1) (List.map PV.str xs)) PV.nilp)) ≤ 1048576)) (brC (!cellB (PV.asStr (List.headD (List.drop (Int.toNat i * 1) (List.map PV.str xs)) PV.nilp))) (some (.inr (.ret,[(.pv (.int .i64 i),none)]))) (some (.inl [(.pv (.sl xs.length (List.map PV.str xs)),none),(.pv (PV.clo 124 []),none),(.pv (.int .i64 (↑xs.length : Int)),none),(.pv (.int .i64 (IntKind.wrap .i64 (i + 1))),none)]))) none) none) none) (some (.inr (.exit 0,[(.bad,none)]))) := by kernel_rfl
theorem jkR (xs : List ByteArray) : jsw brC xs = brC (isL (PV.sl xs.length (List.map PV.str xs)) && Nat.beq 124 124) (some ((.cv (.pv (.bool (decide ((if jaK (asL (PV.sl xs.length (List.map PV.str xs))) < List.length (asL (PV.sl xs.length (List.map PV.str xs))) then (↑(jaK (asL (PV.sl xs.length (List.map PV.str xs)))) : Int) else -1) ≥ 0)))),[]))) none := by kernel_rfl
theorem jnb (xs : List ByteArray) : jtT brC xs = brC (isL (pL xs) && Nat.beq 107 107 && (↑xs.length : Int) == (↑(List.length (asL (pL xs))) : Int) && 0 == 0 && decide (jaL (asL (pL xs)) < List.length (asL (pL xs)))) (some ((.cv (.pv (.int .i64 (↑(jaL (asL (pL xs))) : Int))),[]))) (brC (isL (pL xs) && Nat.beq 107 107 && (↑xs.length : Int) == (↑(List.length (asL (pL xs))) : Int) && 0 == 0) (some ((.cv (.pv (.int .i64 (Int.negSucc 0))),[]))) none) := by kernel_rfl
theorem jmf (s : ByteArray) (g : ByteArray) (xs : List ByteArray) (zs : List ByteArray) (q : PV) (a : Int) (n : Int) (i : Int) : r_ITb brC s g xs zs q a n i = brC (decide (i < n)) (brC (decide (0 ≤ i) && decide (i < (↑zs.length : Int))) (brC (Nat.blt 0 (List.length (List.drop (Int.toNat i * 1) (List.map PV.str zs))) && PV.isStr (List.headD (List.drop (Int.toNat i * 1) (List.map PV.str zs)) PV.nilp) && true) (brC (isL (PV.sl xs.length (List.map PV.str xs))) (brC (decide ((if jay (asL (PV.sl xs.length (List.map PV.str xs))) (PV.asStr (List.headD (List.drop (Int.toNat i * 1) (List.map PV.str zs)) PV.nilp)) < List.length (asL (PV.sl xs.length (List.map PV.str xs))) then (↑(jay (asL (PV.sl xs.length (List.map PV.str xs))) (PV.asStr (List.headD (List.drop (Int.toNat i * 1) (List.map PV.str zs)) PV.nilp))) : Int) else -1) ≤ a)) (some (.inr (.ret,[(.pv (.bool false),none)]))) (some (.inl [(.ptr 4096 0,some (.box [.pv (.str s),.pv (.str g),.pv (.sl xs.length (List.map PV.str xs)),.pv q])),(.pv (.int .i64 (if jay (asL (PV.sl xs.length (List.map PV.str xs))) (PV.asStr (List.headD (List.drop (Int.toNat i * 1) (List.map PV.str zs)) PV.nilp)) < List.length (asL (PV.sl xs.length (List.map PV.str xs))) then (↑(jay (asL (PV.sl xs.length (List.map PV.str xs))) (PV.asStr (List.headD (List.drop (Int.toNat i * 1) (List.map PV.str zs)) PV.nilp))) : Int) else -1)),none),(.pv (.sl zs.length (List.map PV.str zs)),none),(.pv (.int .i64 n),none),(.pv (.int .i64 (IntKind.wrap .i64 (i + 1))),none)]))) none) none) none) (some (.inr (.exit 0,[(.bad,none)]))) := by kernel_rfl
theorem jm2 (xs : List ByteArray) : jvP brC xs = brC (isL (pL xs) && Nat.beq 124 124 && (↑xs.length : Int) == (↑(List.length (asL (pL xs))) : Int) && 0 == 0 && decide (jaK (asL (pL xs)) < List.length (asL (pL xs)))) (some ((.cv (.pv (.int .i64 (↑(jaK (asL (pL xs))) : Int))),[]))) (brC (isL (pL xs) && Nat.beq 124 124 && (↑xs.length : Int) == (↑(List.length (asL (pL xs))) : Int) && 0 == 0) (some ((.cv (.pv (.int .i64 (Int.negSucc 0))),[]))) none) := by kernel_rfl
theorem jmX (xs : List ByteArray) : jt9 brC xs = some ((.cv (.pv (.int .i64 (↑xs.length : Int))),[])) := by kernel_rfl
theorem jnt (x : ByteArray) : jvf brC x = brC (decide (ByteArray.size x ≤ 1048576)) (some ((.cv (.pv (.bool !cellB x)),[]))) none := by kernel_rfl
theorem jmQ (x : ByteArray) : ju6 brC x = brC (decide (ByteArray.size x ≤ 1048576)) (some ((.cv (.pv (.bool !nameB x)),[]))) none := by kernel_rfl
theorem jkD (xs : List ByteArray) : jte brC xs = brC (isL (PV.sl xs.length (List.map PV.str xs)) && Nat.beq 107 107) (some ((.cv (.pv (.bool (decide ((if jaL (asL (PV.sl xs.length (List.map PV.str xs))) < List.length (asL (PV.sl xs.length (List.map PV.str xs))) then (↑(jaL (asL (PV.sl xs.length (List.map PV.str xs)))) : Int) else -1) ≥ 0)))),[]))) none := by kernel_rfl
theorem jrR (b : TblT) : q_ITb brC b = brC (decide (ByteArray.size b.name ≤ 1048576)) (brC (!nameB b.name) (some ((.cv (.pv (.bool false)),[]))) (brC (decide (ByteArray.size b.glob ≤ 1048576)) (brC (!nameB b.glob) (some ((.cv (.pv (.bool false)),[]))) (brC (isL (PV.sl b.cols.length (List.map PV.str b.cols))) (brC (!(decide (1 ≤ (↑(List.length (asL (PV.sl b.cols.length (List.map PV.str b.cols)))) : Int)) && decide ((↑(List.length (asL (PV.sl b.cols.length (List.map PV.str b.cols)))) : Int) ≤ 5))) (some ((.cv (.pv (.bool false)),[]))) (brC (isL (PV.sl b.cols.length (List.map PV.str b.cols))) (brC (!jcL (asL (PV.sl b.cols.length (List.map PV.str b.cols)))) (some ((.cv (.pv (.bool false)),[]))) (brC (isL (PV.sl b.cols.length (List.map PV.str b.cols)) && Nat.beq 107 107) (brC (decide (jaL (asL (PV.sl b.cols.length (List.map PV.str b.cols))) < List.length (asL (PV.sl b.cols.length (List.map PV.str b.cols))))) (some ((.cv (.pv (.bool false)),[]))) (brC (isL (pL b.cols) && isL (pL b.idxs) && (↑b.idxs.length : Int) == (↑(List.length (asL (pL b.idxs))) : Int) && 0 == 0 && 0 == 0 && Nat.beq 4096 4096 && !idxB (asL (pL b.cols)) (asL (pL b.idxs)) 0) (some ((.cv (.pv (.bool false)),[]))) (brC (isL (pL b.cols) && isL (pL b.idxs) && (↑b.idxs.length : Int) == (↑(List.length (asL (pL b.idxs))) : Int) && 0 == 0 && 0 == 0 && Nat.beq 4096 4096) (some ((.cv (.pv (.bool true)),[]))) none))) (brC (isL (PV.sl b.cols.length (List.map PV.str b.cols)) && Nat.beq 107 124) (brC (decide (jaK (asL (PV.sl b.cols.length (List.map PV.str b.cols))) < List.length (asL (PV.sl b.cols.length (List.map PV.str b.cols))))) (some ((.cv (.pv (.bool false)),[]))) (brC (isL (pL b.cols) && isL (pL b.idxs) && (↑b.idxs.length : Int) == (↑(List.length (asL (pL b.idxs))) : Int) && 0 == 0 && 0 == 0 && Nat.beq 4096 4096 && !idxB (asL (pL b.cols)) (asL (pL b.idxs)) 0) (some ((.cv (.pv (.bool false)),[]))) (brC (isL (pL b.cols) && isL (pL b.idxs) && (↑b.idxs.length : Int) == (↑(List.length (asL (pL b.idxs))) : Int) && 0 == 0 && 0 == 0 && Nat.beq 4096 4096) (some ((.cv (.pv (.bool true)),[]))) none))) none))) none)) none)) none)) none := by kernel_rfl
end
end
end Go.Proofs.YtbeebeamdjbkmaaGreatDoor
