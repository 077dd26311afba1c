import Derived.Test.YtnjecdcbaeeeoaaGreatDoorXXi
namespace Go.Proofs.YtnjecdcbaeeeoaaGreatDoor
noncomputable section
set_option linter.unusedVariables false
set_option maxRecDepth 100000
set_option linter.unusedSimpArgs false
section
end
section
open Go.RowKit
theorem jrC (r : ByteArray) (n : Nat) : (tkS r n).size ≤ n := by
 unfold tkS
 by_cases h : n ≤ r.size
 ·rw [if_pos h, ByteArray.size_extract]; omega
 ·rw [if_neg h]; exact Nat.zero_le _
theorem ja8 (r : ByteArray) (n : Nat) : (tkR r n).size ≤ r.size := by
 unfold tkR
 by_cases h : n ≤ r.size
 ·rw [if_pos h, ByteArray.size_extract]; omega
 ·rw [if_neg h]; exact Nat.le_refl _
theorem jaz (r : ByteArray) : 0 ≤ oneV r ∧ oneV r ≤ 255 := by
 unfold oneV numV
 have h1 := jnD (tkS r 1).data.toList
 have h2 := jrC r 1
 rw [jab] at h2
 have h3 : 256 ^ (tkS r 1).data.toList.length ≤ 256 ^ 1 := Nat.pow_le_pow_right (by decide) h2
 omega
theorem jgm (r : ByteArray) : (t1R r).size ≤ r.size := Nat.le_trans (ja8 _ _) (ja8 _ _)
theorem jrJ (r : ByteArray) : (t1S r).size ≤ 255 := by
 have := jrC (tkR r 1) (oneV r).toNat
 have h := jaz r
 unfold t1S
 omega
theorem joG (a r : ByteArray) {n : Nat} (h : n = a.size) : tkS (a ++ r) n = a := by
 unfold tkS
 rw [if_pos (by rw [nqM]; omega), h]
 exact ByteArray.extract_append_eq_left rfl
theorem jbo (a r : ByteArray) {n : Nat} (h : n = a.size) : tkR (a ++ r) n = r := by
 unfold tkR
 rw [if_pos (by rw [nqM]; omega), h, nqM]
 exact ByteArray.extract_append_eq_right rfl rfl
theorem jea (a r : ByteArray) (b : Bool) {n : Nat} (h : n = a.size) : tkB (a ++ r) b n = b := by
 unfold tkB
 rw [if_pos (by rw [nqM]; omega)]
theorem jcX (n : Nat) (r : ByteArray) (h : n ≤ 255) : oneV (litV (n : Int) 1 ++ r) = n := by
 unfold oneV
 rw [joG _ _ (jal _ _).symm, jg3]
 show ((numL [UInt8.ofNat n] : Nat) : Int) = n
 show (((UInt8.ofNat n).toNat + 256 * 0 : Nat) : Int) = n
 rw [UInt8.toNat_ofNat_of_lt' (by simpa using (by omega : n < 256))]
 omega
theorem jkV (a r : ByteArray) (h : a.size ≤ 255) : t1S (jbq a ++ r) = a ∧ t1R (jbq a ++ r) = r ∧ ∀ b, t1B (jbq a ++ r) b = b := by
 have e : jbq a ++ r = litV (a.size : Int) 1 ++ (a ++ r) := by rw [je4, ByteArray.append_assoc]
 have e1 := jcX a.size (a ++ r) h
 have e2 : tkR (litV (a.size : Int) 1 ++ (a ++ r)) 1 = a ++ r := jbo _ _ (jal _ _).symm
 unfold t1S t1R t1B
 rw [e, e1, e2, nqF]
 exact ⟨joG _ _ rfl, jbo _ _ rfl, fun b => by rw [jea _ _ _ (jal _ _).symm, jea _ _ _ rfl]⟩
end
section
open Go.RowKit
def rst (s : ByteArray) (a : Nat) : ByteArray := s.extract a s.size
abbrev srd (s : ByteArray) (a : Int) (b : Bool) : List CV := [.pv (.str s), .pv (.int .i64 a), .pv (.bool b)]
def jsl (br : Br) (s : ByteArray) (a : Int) (b : Bool) (n : Int) := evB br Tryz.prog [] [] LO0 Tryz.f40 [.box 0 (srd s a b), cI n]
def posR (s r : ByteArray) : Int := ((s.size - r.size : Nat) : Int)
def E_stake : Entry := fun ivs => match ivs with
 | [.box 0 [.pv (.str s), .pv (.int .i64 a), .pv (.bool b)], .cv (.pv (.int .i64 n))] =>
  [(decide (0 ≤ n) && decide (0 ≤ a) && decide (a ≤ s.size) && decide (s.size ≤ 2000000), cS (tkS (rst s a.toNat) n.toNat), [srd s (posR s (tkR (rst s a.toNat) n.toNat)) (tkB (rst s a.toNat) b n.toNat)])]
 | _ => []
def keb0 : List (FuncId × Entry) := [(40, E_stake)]
def jtU (br : Br) (s : ByteArray) (a : Int) (b : Bool) := evB br Tryz.prog keb0 [] LO0 Tryz.f39 [.box 0 (srd s a b)]
def E_snum : Entry := fun ivs => match ivs with
 | [.box 0 [.pv (.str s), .pv (.int .i64 a), .pv (.bool b)]] =>
  [(decide (0 ≤ a) && decide (a ≤ s.size) && decide (s.size ≤ 2000000), cI (oneV (rst s a.toNat)), [srd s (posR s (tkR (rst s a.toNat) 1)) (tkB (rst s a.toNat) b 1)])]
 | _ => []
abbrev aSr (slot : Nat) (s : ByteArray) (a : Int) (b : Bool) : AV × Option Ob := aBx slot (srd s a b)
end
section
theorem jm0 (s : ByteArray) (a : Int) (b : Bool) (n : Int) : jsl brC s a b n =
 brC (decide (n > IntKind.wrap .i64 ((↑(ByteArray.size s) : Int) - a)))
 (some ((.cv (.pv (.str { data := #[] })), [[.pv (.str s), .pv (.int .i64 a), .pv (.bool true)]])))
 (brC (decide (0 ≤ IntKind.wrap .i64 (IntKind.wrap .i64 (a + n) - n)) && decide (IntKind.wrap .i64 (IntKind.wrap .i64 (a + n) - n) ≤ IntKind.wrap .i64 (a + n)) && decide (IntKind.wrap .i64 (a + n) ≤ (↑(ByteArray.size s) : Int)) && true && true)
 (some ((.cv (.pv (.str (ByteArray.extract s (Int.toNat (IntKind.wrap .i64 (IntKind.wrap .i64 (a + n) - n))) (Int.toNat (IntKind.wrap .i64 (a + n)))))), [[.pv (.str s), .pv (.int .i64 (IntKind.wrap .i64 (a + n))), .pv (.bool b)]])))
 none) := by kernel_rfl
theorem jpg (s : ByteArray) (a : Int) (b : Bool) : jtU brC s a b =
 brC (decide (0 ≤ 1) && decide (0 ≤ a) && decide (a ≤ (↑(ByteArray.size s) : Int)) && decide (ByteArray.size s ≤ 2000000))
 (brC (ByteArray.toList (tkS (rst s (Int.toNat a)) 1) == [])
 (some ((.cv (.pv (.int .i64 (Int.ofNat 0))), [[.pv (.str s), .pv (.int .i64 (posR s (tkR (rst s (Int.toNat a)) 1))), .pv (.bool (tkB (rst s (Int.toNat a)) b 1))]])))
 (brC (decide (0 ≤ 0) && decide (0 < (↑(ByteArray.size (tkS (rst s (Int.toNat a)) 1)) : Int)) && true)
 (some ((.cv (.pv (.int .i64 (IntKind.wrap .i64 (↑(UInt8.toNat (List.getD (Array.toList (ByteArray.data (tkS (rst s (Int.toNat a)) 1))) 0 0)) : Int)))), [[.pv (.str s), .pv (.int .i64 (posR s (tkR (rst s (Int.toNat a)) 1))), .pv (.bool (tkB (rst s (Int.toNat a)) b 1))]])))
 none))
 none := by kernel_rfl
end
section
open Go.RowKit
theorem jlC (d : ByteArray) (i j k l : Nat) (h : i + l ≤ j) : (d.extract i j).extract k l = d.extract (i + k) (i + l) := by
 rw [ByteArray.extract_extract, Nat.min_eq_left h]
theorem jb0 {s : ByteArray} {k : Nat} (h : k ≤ s.size) : (rst s k).size = s.size - k := by
 unfold rst
 rw [ByteArray.size_extract]
 omega
theorem jif (s : ByteArray) : rst s 0 = s := by
 unfold rst
 exact ByteArray.extract_zero_size
theorem jr1 {s : ByteArray} {k n : Nat} (h : k + n ≤ s.size) : tkS (rst s k) n = s.extract k (k + n) := by
 unfold tkS
 rw [if_pos (by rw [jb0 (by omega)]; omega)]
 unfold rst
 rw [jlC _ _ _ _ _ h, Nat.add_zero]
theorem jj4 {s : ByteArray} {k n : Nat} (h : k + n ≤ s.size) : tkR (rst s k) n = rst s (k + n) := by
 unfold tkR
 rw [if_pos (by rw [jb0 (by omega)]; omega), jb0 (by omega)]
 unfold rst
 rw [jlC _ _ _ _ _ (by omega), show k + (s.size - k) = s.size by omega]
theorem jhX {s : ByteArray} {k n : Nat} (hk : k ≤ s.size) (h : ¬ k + n ≤ s.size) : tkR (rst s k) n = rst s k := by
 unfold tkR
 rw [if_neg (by rw [jb0 hk]; omega)]
theorem jc9 {s : ByteArray} {k : Nat} (h : k ≤ s.size) : posR s (rst s k) = k := by
 unfold posR
 rw [jb0 h, show s.size - (s.size - k) = k by omega]
theorem jsn {s : ByteArray} {k : Nat} (hk : k ≤ s.size) (n : Nat) : ∃ j : Nat, j ≤ s.size ∧ posR s (tkR (rst s k) n) = j ∧ tkR (rst s k) n = rst s j := by
 by_cases h : k + n ≤ s.size
 ·exact ⟨k + n, h, by rw [jj4 h, jc9 h], jj4 h⟩
 ·exact ⟨k, hk, by rw [jhX hk h, jc9 hk], jhX hk h⟩
theorem jk1 : jac Tryz.prog 40 E_stake := jag mix (tab := []) trivial (lp := []) (LO := LO0) ⟨Tryz.func40, by kernel_rfl, by kernel_rfl⟩ (by kernel_rfl) fun ivs res bxs h => by
 unfold E_stake at h
 split at h
 ·rename_i s a b n
  obtain ⟨hc, he⟩ := pick1 h
  cases he
  obtain ⟨hc, k3⟩ := andE hc
  obtain ⟨hc, k2⟩ := andE hc
  obtain ⟨k0, k1⟩ := andE hc
  have k0 := nqI k0
  have k1 := nqI k1
  have k2 := nqI k2
  have k3 := nqI k3
  obtain ⟨k, rfl⟩ : ∃ k : Nat, a = (k : Int) := ⟨a.toNat, by omega⟩
  obtain ⟨m, rfl⟩ : ∃ m : Nat, n = (m : Int) := ⟨n.toNat, by omega⟩
  have hk : k ≤ s.size := by omega
  refine ⟨jap (by kernel_rfl), (jm0 s k b m).trans ?_⟩
  have w1 : IntKind.wrap .i64 ((s.size : Int) - (k : Int)) = (s.size : Int) - (k : Int) := wrapI (by omega) (by omega)
  rw [nqF, nqF, w1]
  by_cases hm : k + m ≤ s.size
  ·have w2 : IntKind.wrap .i64 ((k : Int) + (m : Int)) = ((k + m : Nat) : Int) := by rw [wrapI (by omega) (by omega)]; omega
   have w3 : IntKind.wrap .i64 (((k + m : Nat) : Int) - (m : Int)) = (k : Int) := by rw [wrapI (by omega) (by omega)]; omega
   have hb : tkB (rst s k) b m = b := by unfold tkB; rw [if_pos (by rw [jb0 hk]; omega)]
   rw [w2, w3, dF (by omega), jj4 hm, jc9 hm, jr1 hm, hb]
   simp (disch := omega) only [dT, nqF, Bool.and_true]
   rfl
  ·have hb : tkB (rst s k) b m = true := by unfold tkB; rw [if_neg (by rw [jb0 hk]; omega)]
   have hS : tkS (rst s k) m = ⟨#[]⟩ := by unfold tkS; rw [if_neg (by rw [jb0 hk]; omega)]
   rw [dT (by omega), jhX hk hm, jc9 hk, hb, hS]
   rfl
 ·cases h
theorem jtl : jah Tryz.prog keb0 := ⟨jk1, trivial⟩
theorem jsg : jac Tryz.prog 39 E_snum := jag mix jtl (lp := []) (LO := LO0) ⟨Tryz.func39, by kernel_rfl, by kernel_rfl⟩ (by kernel_rfl) fun ivs res bxs h => by
 unfold E_snum at h
 split at h
 ·rename_i s a b
  obtain ⟨hc, he⟩ := pick1 h
  cases he
  obtain ⟨hc, k3⟩ := andE hc
  obtain ⟨k1, k2⟩ := andE hc
  refine ⟨jap (by kernel_rfl), (jpg s a b).trans ?_⟩
  rw [k1, k2, k3]
  by_cases h1 : 1 ≤ (rst s a.toNat).size
  ·have e1 := tkS1 h1
   have hc := UInt8.toNat_lt ((rst s a.toNat).data.toList.getD 0 0)
   have hz : (tkS (rst s a.toNat) 1).size = 1 := by rw [jab, e1]; rfl
   have hl : (ByteArray.toList (tkS (rst s a.toNat) 1) == ([] : List UInt8)) = false := by rw [ByteArray.toList_eq, e1]; rfl
   have hv : oneV (rst s a.toNat) = (((rst s a.toNat).data.toList.getD 0 0).toNat : Int) := by
    unfold oneV numV
    rw [e1]
    show (((_ : Nat) + 256 * 0 : Nat) : Int) = _
    omega
   have w1 : IntKind.wrap .i64 (((((tkS (rst s a.toNat) 1).data.toList).getD 0 0).toNat : Nat) : Int) = (((rst s a.toNat).data.toList.getD 0 0).toNat : Int) := by
    rw [e1]
    exact wrapI (by show -9223372036854775808 ≤ (((rst s a.toNat).data.toList.getD 0 0).toNat : Int); omega) (by show (((rst s a.toNat).data.toList.getD 0 0).toNat : Int) ≤ 9223372036854775807; omega)
   rw [hl, w1, hz, hv]
   rfl
  ·have e0 := tkS0 h1
   have hl : (ByteArray.toList (tkS (rst s a.toNat) 1) == ([] : List UInt8)) = true := by rw [e0]; exact jbt []
   have hv : oneV (rst s a.toNat) = 0 := by unfold oneV numV; rw [e0]; rfl
   rw [hl, hv]
   rfl
 ·cases h
theorem jb7 (X : ByteArray) : jaq (jak X) = some X.data.toList := jbS X.data.toList
def Suf (s r : ByteArray) : Prop := ∃ k, k ≤ s.size ∧ r = rst s k
theorem Suf.tk {s r : ByteArray} (h : Suf s r) (n : Nat) : Suf s (tkR r n) := by
 obtain ⟨k, hk, rfl⟩ := h
 obtain ⟨j, h1, _, h3⟩ := jsn hk n
 exact ⟨j, h1, h3⟩
theorem Suf.all (s : ByteArray) : Suf s s := ⟨0, Nat.zero_le _, (jif s).symm⟩
theorem jbz {s r : ByteArray} (h : Suf s r) : rst s (Int.toNat (posR s r)) = r := by
 obtain ⟨k, hk, rfl⟩ := h
 rw [jc9 hk, nqF]
theorem jbn (s r : ByteArray) : decide (0 ≤ posR s r) = true := decide_eq_true (Int.natCast_nonneg _)
theorem jbp (s r : ByteArray) : decide (posR s r ≤ (s.size : Int)) = true := decide_eq_true (by unfold posR; omega)
theorem jhQ (r : ByteArray) : decide (0 ≤ oneV r) = true := decide_eq_true (jaz r).1
theorem Suf.t1 {s r : ByteArray} (h : Suf s r) : Suf s (t1R r) := Suf.tk (Suf.tk h _) _
theorem Suf.r3 {s r : ByteArray} (h : Suf s r) : Suf s (Go.Proofs.YtnjecdcbaeeeoaaGreatDoor.r3 r) := Suf.tk (Suf.t1 h) _
end
section
open Go.RowKit
def digL : Nat → Nat → List UInt8 → List UInt8
 | 0, _, l => l
 | f + 1, k, l => if k = 0 then l else digL f (k / 10) (UInt8.ofNat (48 + k % 10) :: l)
def mkV (k : Int) : ByteArray := hidS (bs (109 :: digL 20 k.toNat []))
abbrev jlz : List (Nat × List Nat × List Nat) := [(4, [0, 3], [0, 3])]
def jh4 (ls : LS) : List (Bool × Ex × LS) := match ls with
 | [(.pv (.int .i64 k), none), (.pv (.str s), none)] =>
  [(decide (0 ≤ k) && holds (k ≤ 1000000000) && Nat.beq s.size 0, .exit 0, [aI 0, aS (hidS (bs (digL 20 k.toNat [])))])]
 | _ => []
def jlQ : LoopT := fun k ls => bif Nat.beq k 4 then jh4 ls else []
def r_mkT (br : Br) (k : Int) (s : ByteArray) := rdB br Tryz.prog [] jlz jlQ Tryz.f110 4 [] [aI k, aS s]
def q_mkT (br : Br) (k : Int) := evB br Tryz.prog [] jlz jlQ Tryz.f110 [cI k]
def E_mkT : Entry := fun ivs => match ivs with
 | [.cv (.pv (.int .i64 k))] => [(decide (1 ≤ k) && holds (k ≤ 1000000000), cS (mkV k), [])]
 | _ => []
def kfb0 : List (FuncId × Entry) := [(110, E_mkT)]
def mkL : Int → List ByteArray → List ByteArray
 | _, [] => []
 | k, _ :: t => mkV k :: mkL (k + 1) t
abbrev jeA : List (Nat × List Nat × List Nat) := [(2, [0, 1, 5], [0, 1])]
abbrev aWL (l : List ByteArray) : AV × Option Ob := (.own 0, some (.lst 1 9 l.length (l.map .str) true))
def jhZ (ls : LS) : List (Bool × Ex × LS) := match ls with
 | [(.own x, some (.lst 1 e n l true)), (.pv (.int .i64 k), none), (.pv (.int .i64 i), none)] =>
  [(isL (.sl n l) && Nat.beq e 9 && Nat.beq x 0 && (i == 0) && decide (1 ≤ k) && holds (k ≤ 900000000), .exit 0, [aWL (mkL k (asL (.sl n l))), aI (k + (asL (.sl n l)).length)])]
 | _ => []
def jk7 : LoopT := fun k ls => bif Nat.beq k 2 then jhZ ls else []
def r_mkS (br : Br) (l : List ByteArray) (k i : Int) := rdB br Tryz.prog kfb0 jeA jk7 Tryz.f46 2 [0] [aWL l, aI k, aI i]
def q_mkS (br : Br) (l : List ByteArray) (k : Int) := evB br Tryz.prog kfb0 jeA jk7 Tryz.f46 [.lk false [] 1 9 l.length (l.map .str) [], cI k]
def E_mkS : Entry := fun ivs => match ivs with
 | [.lk false [] 1 e n l [], .cv (.pv (.int .i64 k))] => [(isL (.sl n l) && Nat.beq e 9 && decide (1 ≤ k) && holds (k ≤ 900000000), cI (k + (asL (.sl n l)).length), [[.lst 1 9 n ((mkL k (asL (.sl n l))).map .str) true]])]
 | _ => []
abbrev jlx : List (Nat × List Nat × List Nat) := [(2, [0, 1, 5], [1])]
def jhN (ls : LS) : List (Bool × Ex × LS) := match ls with
 | [(.pv p, none), (.pv (.int .i64 k), none), (.pv (.int .i64 i), none)] =>
  [(isL p && (i == 0) && decide (1 ≤ k) && holds (k ≤ 900000000) && holds (asL p = mkL k (asL p)), .exit 0, [aI (k + (asL p).length)])]
 | _ => []
def jlW : LoopT := fun k ls => bif Nat.beq k 2 then jhN ls else []
def r_hdS (br : Br) (l : List ByteArray) (k i : Int) := rdB br Tryz.prog kfb0 jlx jlW Tryz.f48 2 [] [aP (pL l), aI k, aI i]
def q_hdS (br : Br) (l : List ByteArray) (k : Int) := evB br Tryz.prog kfb0 jlx jlW Tryz.f48 [cP (pL l), cI k]
def E_hdS : Entry := fun ivs => match ivs with
 | [.cv (.pv p), .cv (.pv (.int .i64 k))] => [(isL p && decide (1 ≤ k) && holds (k ≤ 900000000) && holds (asL p = mkL k (asL p)), cI (k + (asL p).length), [])]
 | _ => []
abbrev jfU : List (Nat × List Nat × List Nat) := [(4, [0, 1, 5], [0, 4])]
def jfo (ls : LS) : List (Bool × Ex × LS) := match ls with
 | [(.pv p, none), (.pv q, none), (.pv (.int .i64 i), none)] =>
  [(isL p && isL q && (i == 0) && decide ((asL p).length = (asL q).length) && holds (asL p = asL q), .exit 0, [aP p, aX]),
   (isL p && isL q && (i == 0) && decide ((asL p).length = (asL q).length), .ret, [aP p, aB false])]
 | _ => []
def jft : LoopT := fun k ls => bif Nat.beq k 4 then jfo ls else []
def juD (br : Br) (l u : List ByteArray) (i : Int) := rdB br Tryz.prog [] jfU jft Tryz.f44 4 [] [aP (pL l), aP (pL u), aI i]
def jt4 (br : Br) (l u : List ByteArray) := evB br Tryz.prog [] jfU jft Tryz.f44 [cP (pL l), cP (pL u)]
def E_eqSt : Entry := fun ivs => match ivs with
 | [.cv (.pv p), .cv (.pv q)] => [(isL p && isL q, cB (holds (asL p = asL q)), [])]
 | _ => []
end
section
theorem jhI (k : Int) (s : ByteArray) : r_mkT brC k s =
 brC (decide (k > 0))
 (brC (decide (ByteArray.size { data := #[UInt8.ofNat (Int.toNat (IntKind.wrap .u8 (IntKind.wrap .i64 (48 + Int.tmod k 10))))] } + ByteArray.size s ≤ 9223372036854775807) && true)
 (some (.inl [(.pv (.int .i64 (IntKind.wrap .i64 (Int.tdiv k 10))), none), (.pv (.str ({ data := #[UInt8.ofNat (Int.toNat (IntKind.wrap .u8 (IntKind.wrap .i64 (48 + Int.tmod k 10))))] } ++ s)), none)]))
 none)
 (some (.inr (.exit 0, [(.pv (.int .i64 k), none), (.pv (.str s), none)]))) := by kernel_rfl
theorem jld (l : List ByteArray) (k : Int) (i : Int) : r_mkS brC l k i =
 brC (decide (i < (↑(List.length l) : Int)))
 (brC (decide (1 ≤ k) && holds (k ≤ 1000000000))
 (brC (decide (0 ≤ i) && decide (i < (↑(List.length l) : Int)))
 (brC (Nat.beq (List.length [PV.str (mkV k)]) 1 && Nat.ble (Int.toNat i * 1 + 1) (List.length (List.map PV.str l)))
 (some (.inl [(.own 0, some (.lst 1 9 (List.length l) (List.take (Int.toNat i * 1) (List.map PV.str l) ++ [PV.str (mkV k)] ++ List.drop (Int.toNat i * 1 + 1) (List.map PV.str l)) true)), (.pv (.int .i64 (IntKind.wrap .i64 (k + 1))), none), (.pv (.int .i64 (IntKind.wrap .i64 (i + 1))), none)]))
 none)
 none)
 none)
 (some (.inr (.exit 0, [(.own 0, some (.lst 1 9 (List.length l) (List.map PV.str l) true)), (.pv (.int .i64 k), none)]))) := by kernel_rfl
theorem jjh (l : List ByteArray) (u : List ByteArray) (i : Int) : juD brC l u i =
 brC (decide (i < (↑(List.length l) : Int)))
 (brC (decide (0 ≤ i) && decide (i < (↑(List.length l) : Int)))
 (brC (Nat.blt 0 (List.length (List.drop (Int.toNat i * 1) (List.map PV.str l))) && PV.isStr (List.headD (List.drop (Int.toNat i * 1) (List.map PV.str l)) PV.nilp) && true)
 (brC (decide (0 ≤ i) && decide (i < (↑(List.length u) : Int)))
 (brC (Nat.blt 0 (List.length (List.drop (Int.toNat i * 1) (List.map PV.str u))) && PV.isStr (List.headD (List.drop (Int.toNat i * 1) (List.map PV.str u)) PV.nilp) && true)
 (brC (!ByteArray.toList (PV.asStr (List.headD (List.drop (Int.toNat i * 1) (List.map PV.str l)) PV.nilp)) == ByteArray.toList (PV.asStr (List.headD (List.drop (Int.toNat i * 1) (List.map PV.str u)) PV.nilp)))
 (some (.inr (.ret, [(.pv (.sl (List.length l) (List.map PV.str l)), none), (.pv (.bool false), none)])))
 (some (.inl [(.pv (.sl (List.length l) (List.map PV.str l)), none), (.pv (.sl (List.length u) (List.map PV.str u)), none), (.pv (.int .i64 (IntKind.wrap .i64 (i + 1))), none)])))
 none)
 none)
 none)
 none)
 (some (.inr (.exit 0, [(.pv (.sl (List.length l) (List.map PV.str l)), none), (.bad, none)]))) := by kernel_rfl
theorem jln (l : List ByteArray) (k : Int) (i : Int) : r_hdS brC l k i =
 brC (decide (i < (↑(List.length l) : Int)))
 (brC (decide (0 ≤ i) && decide (i < (↑(List.length l) : Int)))
 (brC (Nat.blt 0 (List.length (List.drop (Int.toNat i * 1) (List.map PV.str l))) && PV.isStr (List.headD (List.drop (Int.toNat i * 1) (List.map PV.str l)) PV.nilp) && true)
 (brC (decide (1 ≤ k) && holds (k ≤ 1000000000))
 (brC (!ByteArray.toList (PV.asStr (List.headD (List.drop (Int.toNat i * 1) (List.map PV.str l)) PV.nilp)) == ByteArray.toList (mkV k))
 (some (.inr (.ret, [(.pv (.int .i64 k), none)])))
 (some (.inl [(.pv (.sl (List.length l) (List.map PV.str l)), none), (.pv (.int .i64 (IntKind.wrap .i64 (k + 1))), none), (.pv (.int .i64 (IntKind.wrap .i64 (i + 1))), none)])))
 none)
 none)
 none)
 (some (.inr (.exit 0, [(.pv (.int .i64 k), none)]))) := by kernel_rfl
theorem jqf (l : List ByteArray) (k : Int) : q_mkS brC l k =
 brC (isL (PV.sl (List.length l) (List.map PV.str l)) && Nat.beq 9 9 && Nat.beq 0 0 && 0 == 0 && decide (1 ≤ k) && holds (k ≤ 900000000))
 (brC (Nat.beq (List.length (mkL k (asL (PV.sl (List.length l) (List.map PV.str l))))) (List.length l))
 (some ((.cv (.pv (.int .i64 (k + (↑(List.length (asL (PV.sl (List.length l) (List.map PV.str l)))) : Int)))), [[.lst 1 9 (List.length l) (List.map PV.str (mkL k (asL (PV.sl (List.length l) (List.map PV.str l))))) true]])))
 none)
 none := by kernel_rfl
theorem jqo (k : Int) : q_mkT brC k =
 brC (decide (k ≤ 0))
 (some ((.cv (.pv (.str { data := #[109, 48] })), [])))
 (brC (decide (0 ≤ k) && holds (k ≤ 1000000000) && Nat.beq 0 0)
 (brC (decide (1 + ByteArray.size (hidS (bs (digL 20 (Int.toNat k) []))) ≤ 9223372036854775807) && true)
 (some ((.cv (.pv (.str ({ data := #[109] } ++ hidS (bs (digL 20 (Int.toNat k) []))))), [])))
 none)
 none) := by kernel_rfl
theorem jq4 (l : List ByteArray) (k : Int) : q_hdS brC l k =
 brC (isL (pL l) && 0 == 0 && decide (1 ≤ k) && holds (k ≤ 900000000) && holds (asL (pL l) = mkL k (asL (pL l))))
 (some ((.cv (.pv (.int .i64 (k + (↑(List.length (asL (pL l))) : Int)))), [])))
 none := by kernel_rfl
theorem joS (l : List ByteArray) (u : List ByteArray) : jt4 brC l u =
 brC ((↑(List.length l) : Int) != (↑(List.length u) : Int))
 (some ((.cv (.pv (.bool false)), [])))
 (brC (isL (pL l) && isL (pL u) && 0 == 0 && decide (List.length (asL (pL l)) = List.length (asL (pL u))) && holds (asL (pL l) = asL (pL u)))
 (some ((.cv (.pv (.bool true)), [])))
 (brC (isL (pL l) && isL (pL u) && 0 == 0 && decide (List.length (asL (pL l)) = List.length (asL (pL u))))
 (some ((.cv (.pv (.bool false)), [])))
 none)) := by kernel_rfl
end
end
end Go.Proofs.YtnjecdcbaeeeoaaGreatDoor
