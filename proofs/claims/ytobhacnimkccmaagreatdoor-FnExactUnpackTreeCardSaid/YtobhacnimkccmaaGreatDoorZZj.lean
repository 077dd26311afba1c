import Derived.Test.YtobhacnimkccmaaGreatDoorZZi
namespace Go.Proofs.YtobhacnimkccmaaGreatDoor
set_option linter.unusedVariables false
set_option maxRecDepth 100000
set_option linter.unusedSimpArgs false
section
end
section
open Go.RowKit
theorem jrh (r : ByteArray) (n : Nat) : (tkS r n).size ≤ n := by
  unfold tkS
  by_cases h : n ≤ r.size
  · rw [if_pos h, ByteArray.size_extract]; omega
  · rw [if_neg h]; exact Nat.zero_le _
theorem jdi (r : ByteArray) (n : Nat) : (tkR r n).size ≤ r.size := by
  unfold tkR
  by_cases h : n ≤ r.size
  · rw [if_pos h, ByteArray.size_extract]; omega
  · rw [if_neg h]; exact Nat.le_refl _
theorem ja9 (r : ByteArray) : 0 ≤ oneV r ∧ oneV r ≤ 255 := by
  unfold oneV numV
  have h1 := jpg (tkS r 1).data.toList
  have h2 := jrh r 1
  rw [jab] at h2
  have h3 : 256 ^ (tkS r 1).data.toList.length ≤ 256 ^ 1 := Nat.pow_le_pow_right (by decide) h2
  omega
theorem jlg (r : ByteArray) : (t1R r).size ≤ r.size := Nat.le_trans (jdi _ _) (jdi _ _)
theorem jq7 (r : ByteArray) : (t1S r).size ≤ 255 := by
  have := jrh (tkR r 1) (oneV r).toNat
  have h := ja9 r
  unfold t1S
  omega
theorem jnI (a r : ByteArray) {n : Nat} (h : n = a.size) : tkS (a ++ r) n = a := by
  unfold tkS
  rw [if_pos (by rw [ByteArray.size_append]; omega), h]
  exact ByteArray.extract_append_eq_left rfl
theorem jfO (a r : ByteArray) {n : Nat} (h : n = a.size) : tkR (a ++ r) n = r := by
  unfold tkR
  rw [if_pos (by rw [ByteArray.size_append]; omega), h, ByteArray.size_append]
  exact ByteArray.extract_append_eq_right rfl rfl
theorem jhe (a r : ByteArray) (b : Bool) {n : Nat} (h : n = a.size) : tkB (a ++ r) b n = b := by
  unfold tkB
  rw [if_pos (by rw [ByteArray.size_append]; omega)]
theorem jeN (n : Nat) (r : ByteArray) (h : n ≤ 255) : oneV (litV (n : Int) 1 ++ r) = n := by
  unfold oneV
  rw [jnI _ _ (jaB _ _).symm, jht]
  show ((numL [UInt8.ofNat n] : Nat) : Int) = n
  show (((UInt8.ofNat n).toNat + 256 * 0 : Nat) : Int) = n
  rw [UInt8.toNat_ofNat_of_lt' (by simpa using (by omega : n < 256))]
  omega
theorem jlu (a r : ByteArray) (h : a.size ≤ 255) : t1S (jaI a ++ r) = a ∧ t1R (jaI a ++ r) = r ∧ ∀ b, t1B (jaI a ++ r) b = b := by
  have e : jaI a ++ r = litV (a.size : Int) 1 ++ (a ++ r) := by rw [jdS, ByteArray.append_assoc]
  have e1 := jeN a.size (a ++ r) h
  have e2 : tkR (litV (a.size : Int) 1 ++ (a ++ r)) 1 = a ++ r := jfO _ _ (jaB _ _).symm
  unfold t1S t1R t1B
  rw [e, e1, e2, Int.toNat_natCast]
  exact ⟨jnI _ _ rfl, jfO _ _ rfl, fun b => by rw [jhe _ _ _ (jaB _ _).symm, jhe _ _ _ rfl]⟩
theorem jmv (xs : List ByteArray) (h4 : xs.length ≤ 4) (h24 : ∀ s ∈ xs, s.size ≤ 24) : (encL xs).length ≤ 240 := by
  have := jdy xs h24
  omega
theorem jpN {xs : List ByteArray} (h : subsB xs = true) : shL xs := by
  obtain ⟨h4, h24⟩ := jbv h
  exact ⟨by omega, fun z hz => by have := h24 z hz; omega⟩
end
section
open Go.RowKit
def rst (s : ByteArray) (a : Nat) : ByteArray := s.extract a s.size
abbrev srd (s : ByteArray) (a : Int) (b : Bool) : List CV := [.pv (.str s), .pv (.int .i64 a), .pv (.bool b)]
noncomputable def jsK (br : Br) (s : ByteArray) (a : Int) (b : Bool) (n : Int) := evB br Tryz.prog [] [] LO0 Tryz.f43 [.box 0 (srd s a b), cI n]
def posR (s r : ByteArray) : Int := ((s.size - r.size : Nat) : Int)
noncomputable def E_stake : Entry := fun ivs => match ivs with
  | [.box 0 [.pv (.str s), .pv (.int .i64 a), .pv (.bool b)], .cv (.pv (.int .i64 n))] =>
    [(decide (0 ≤ n) && decide (0 ≤ a) && decide (a ≤ s.size) && decide (s.size ≤ 2000000), cS (tkS (rst s a.toNat) n.toNat), [srd s (posR s (tkR (rst s a.toNat) n.toNat)) (tkB (rst s a.toNat) b n.toNat)])]
  | _ => []
noncomputable def keb0 : List (FuncId × Entry) := [(43, E_stake)]
noncomputable def jtC (br : Br) (s : ByteArray) (a : Int) (b : Bool) := evB br Tryz.prog keb0 [] LO0 Tryz.f42 [.box 0 (srd s a b)]
noncomputable def E_snum : Entry := fun ivs => match ivs with
  | [.box 0 [.pv (.str s), .pv (.int .i64 a), .pv (.bool b)]] =>
    [(decide (0 ≤ a) && decide (a ≤ s.size) && decide (s.size ≤ 2000000), cI (oneV (rst s a.toNat)), [srd s (posR s (tkR (rst s a.toNat) 1)) (tkB (rst s a.toNat) b 1)])]
  | _ => []
abbrev oR (slot : Nat) (s : ByteArray) : AV × Option Ob := (.own (4096 * slot), some (.lst 1 (1000000 + 5) s.size (jaj s) true))
abbrev aSr (slot : Nat) (s : ByteArray) (a : Int) (b : Bool) : AV × Option Ob := aBx slot (srd s a b)
end
section
theorem jmx (s : ByteArray) (a : Int) (b : Bool) (n : Int) : jsK brC s a b n =
 brC (decide (n > IntKind.wrap .i64 ((↑(ByteArray.size s) : Int) - a)))
 (some ((.cv (.pv (.str { data := #[] })), [[.pv (.str s), .pv (.int .i64 a), .pv (.bool true)]])))
 (brC (decide (0 ≤ IntKind.wrap .i64 (IntKind.wrap .i64 (a + n) - n)) && decide (IntKind.wrap .i64 (IntKind.wrap .i64 (a + n) - n) ≤ IntKind.wrap .i64 (a + n)) && decide (IntKind.wrap .i64 (a + n) ≤ (↑(ByteArray.size s) : Int)) && true && true)
 (some ((.cv (.pv (.str (ByteArray.extract s (Int.toNat (IntKind.wrap .i64 (IntKind.wrap .i64 (a + n) - n))) (Int.toNat (IntKind.wrap .i64 (a + n)))))), [[.pv (.str s), .pv (.int .i64 (IntKind.wrap .i64 (a + n))), .pv (.bool b)]])))
 none) := by kernel_rfl
theorem jo8 (s : ByteArray) (a : Int) (b : Bool) : jtC brC s a b =
 brC (decide (0 ≤ 1) && decide (0 ≤ a) && decide (a ≤ (↑(ByteArray.size s) : Int)) && decide (ByteArray.size s ≤ 2000000))
 (brC (ByteArray.toList (tkS (rst s (Int.toNat a)) 1) == [])
 (some ((.cv (.pv (.int .i64 (Int.ofNat 0))), [[.pv (.str s), .pv (.int .i64 (posR s (tkR (rst s (Int.toNat a)) 1))), .pv (.bool (tkB (rst s (Int.toNat a)) b 1))]])))
 (brC (decide (0 ≤ 0) && decide (0 < (↑(ByteArray.size (tkS (rst s (Int.toNat a)) 1)) : Int)) && true)
 (some ((.cv (.pv (.int .i64 (IntKind.wrap .i64 (↑(UInt8.toNat (List.getD (Array.toList (ByteArray.data (tkS (rst s (Int.toNat a)) 1))) 0 0)) : Int)))), [[.pv (.str s), .pv (.int .i64 (posR s (tkR (rst s (Int.toNat a)) 1))), .pv (.bool (tkB (rst s (Int.toNat a)) b 1))]])))
 none))
 none := by kernel_rfl
end
section
open Go.RowKit
theorem jlF (d : ByteArray) (i j k l : Nat) (h : i + l ≤ j) : (d.extract i j).extract k l = d.extract (i + k) (i + l) := by
  rw [ByteArray.extract_extract, Nat.min_eq_left h]
theorem jbW {s : ByteArray} {k : Nat} (h : k ≤ s.size) : (rst s k).size = s.size - k := by
  unfold rst
  rw [ByteArray.size_extract]
  omega
theorem jlN (s : ByteArray) : rst s 0 = s := by
  unfold rst
  exact ByteArray.extract_zero_size
theorem jsI {s : ByteArray} {k n : Nat} (h : k + n ≤ s.size) : tkS (rst s k) n = s.extract k (k + n) := by
  unfold tkS
  rw [if_pos (by rw [jbW (by omega)]; omega)]
  unfold rst
  rw [jlF _ _ _ _ _ h, Nat.add_zero]
theorem jkn {s : ByteArray} {k n : Nat} (h : k + n ≤ s.size) : tkR (rst s k) n = rst s (k + n) := by
  unfold tkR
  rw [if_pos (by rw [jbW (by omega)]; omega), jbW (by omega)]
  unfold rst
  rw [jlF _ _ _ _ _ (by omega), show k + (s.size - k) = s.size by omega]
theorem jhq {s : ByteArray} {k n : Nat} (hk : k ≤ s.size) (h : ¬ k + n ≤ s.size) : tkR (rst s k) n = rst s k := by
  unfold tkR
  rw [if_neg (by rw [jbW hk]; omega)]
theorem jcU {s : ByteArray} {k : Nat} (h : k ≤ s.size) : posR s (rst s k) = k := by
  unfold posR
  rw [jbW h, show s.size - (s.size - k) = k by omega]
theorem js0 {s : ByteArray} {k : Nat} (hk : k ≤ s.size) (n : Nat) : ∃ j : Nat, j ≤ s.size ∧ posR s (tkR (rst s k) n) = j ∧ tkR (rst s k) n = rst s j := by
  by_cases h : k + n ≤ s.size
  · exact ⟨k + n, h, by rw [jkn h, jcU h], jkn h⟩
  · exact ⟨k, hk, by rw [jhq hk h, jcU hk], jhq hk h⟩
theorem jlX : jac Tryz.prog 43 E_stake := jad mix (tab := []) trivial (lp := []) (LO := LO0) ⟨Tryz.func43, by kernel_rfl, by kernel_rfl⟩ (by kernel_rfl) fun ivs res bxs h => by
  unfold E_stake at h
  split at h
  · rename_i s a b n
    obtain ⟨hc, he⟩ := pick1 h
    cases he
    obtain ⟨hc, k3⟩ := andE hc
    obtain ⟨hc, k2⟩ := andE hc
    obtain ⟨k0, k1⟩ := andE hc
    have k0 := of_decide_eq_true k0
    have k1 := of_decide_eq_true k1
    have k2 := of_decide_eq_true k2
    have k3 := of_decide_eq_true k3
    obtain ⟨k, rfl⟩ : ∃ k : Nat, a = (k : Int) := ⟨a.toNat, by omega⟩
    obtain ⟨m, rfl⟩ : ∃ m : Nat, n = (m : Int) := ⟨n.toNat, by omega⟩
    have hk : k ≤ s.size := by omega
    refine ⟨jar (by kernel_rfl), (jmx s k b m).trans ?_⟩
    have w1 : IntKind.wrap .i64 ((s.size : Int) - (k : Int)) = (s.size : Int) - (k : Int) := wrapI (by omega) (by omega)
    rw [Int.toNat_natCast, Int.toNat_natCast, w1]
    by_cases hm : k + m ≤ s.size
    · have w2 : IntKind.wrap .i64 ((k : Int) + (m : Int)) = ((k + m : Nat) : Int) := by rw [wrapI (by omega) (by omega)]; omega
      have w3 : IntKind.wrap .i64 (((k + m : Nat) : Int) - (m : Int)) = (k : Int) := by rw [wrapI (by omega) (by omega)]; omega
      have hb : tkB (rst s k) b m = b := by unfold tkB; rw [if_pos (by rw [jbW hk]; omega)]
      rw [w2, w3, dF (by omega), jkn hm, jcU hm, jsI hm, hb]
      simp (disch := omega) only [dT, Int.toNat_natCast, Bool.and_true]
      rfl
    · have hb : tkB (rst s k) b m = true := by unfold tkB; rw [if_neg (by rw [jbW hk]; omega)]
      have hS : tkS (rst s k) m = ⟨#[]⟩ := by unfold tkS; rw [if_neg (by rw [jbW hk]; omega)]
      rw [dT (by omega), jhq hk hm, jcU hk, hb, hS]
      rfl
  · cases h
theorem jsg : jaf Tryz.prog keb0 := ⟨jlX, trivial⟩
theorem jsZ : jac Tryz.prog 42 E_snum := jad mix jsg (lp := []) (LO := LO0) ⟨Tryz.func42, by kernel_rfl, by kernel_rfl⟩ (by kernel_rfl) fun ivs res bxs h => by
  unfold E_snum at h
  split at h
  · rename_i s a b
    obtain ⟨hc, he⟩ := pick1 h
    cases he
    obtain ⟨hc, k3⟩ := andE hc
    obtain ⟨k1, k2⟩ := andE hc
    refine ⟨jar (by kernel_rfl), (jo8 s a b).trans ?_⟩
    rw [k1, k2, k3]
    by_cases h1 : 1 ≤ (rst s a.toNat).size
    · have e1 := tkS1 h1
      have hc := UInt8.toNat_lt ((rst s a.toNat).data.toList.getD 0 0)
      have hz : (tkS (rst s a.toNat) 1).size = 1 := by rw [jab, e1]; rfl
      have hl : (ByteArray.toList (tkS (rst s a.toNat) 1) == ([] : List UInt8)) = false := by rw [ByteArray.toList_eq, e1]; rfl
      have hv : oneV (rst s a.toNat) = (((rst s a.toNat).data.toList.getD 0 0).toNat : Int) := by
        unfold oneV numV
        rw [e1]
        show (((_ : Nat) + 256 * 0 : Nat) : Int) = _
        omega
      have w1 : IntKind.wrap .i64 (((((tkS (rst s a.toNat) 1).data.toList).getD 0 0).toNat : Nat) : Int) = (((rst s a.toNat).data.toList.getD 0 0).toNat : Int) := by
        rw [e1]
        exact wrapI (by show -9223372036854775808 ≤ (((rst s a.toNat).data.toList.getD 0 0).toNat : Int); omega) (by show (((rst s a.toNat).data.toList.getD 0 0).toNat : Int) ≤ 9223372036854775807; omega)
      rw [hl, w1, hz, hv]
      rfl
    · have e0 := tkS0 h1
      have hl : (ByteArray.toList (tkS (rst s a.toNat) 1) == ([] : List UInt8)) = true := by rw [e0]; exact jbp []
      have hv : oneV (rst s a.toNat) = 0 := by unfold oneV numV; rw [e0]; rfl
      rw [hl, hv]
      rfl
  · cases h
theorem jgl (X : ByteArray) : jaU (jaj X) = some X.data.toList := jbt X.data.toList
def Suf (s r : ByteArray) : Prop := ∃ k, k ≤ s.size ∧ r = rst s k
theorem Suf.tk {s r : ByteArray} (h : Suf s r) (n : Nat) : Suf s (tkR r n) := by
  obtain ⟨k, hk, rfl⟩ := h
  obtain ⟨j, h1, _, h3⟩ := js0 hk n
  exact ⟨j, h1, h3⟩
theorem Suf.all (s : ByteArray) : Suf s s := ⟨0, Nat.zero_le _, (jlN s).symm⟩
theorem jjJ {s r : ByteArray} (h : Suf s r) : rst s (Int.toNat (posR s r)) = r := by
  obtain ⟨k, hk, rfl⟩ := h
  rw [jcU hk, Int.toNat_natCast]
theorem jkm (s r : ByteArray) : decide (0 ≤ posR s r) = true := decide_eq_true (Int.natCast_nonneg _)
theorem jkC (s r : ByteArray) : decide (posR s r ≤ (s.size : Int)) = true := decide_eq_true (by unfold posR; omega)
theorem jkH (r : ByteArray) : decide (0 ≤ oneV r) = true := decide_eq_true (ja9 r).1
theorem Suf.t1 {s r : ByteArray} (h : Suf s r) : Suf s (t1R r) := Suf.tk (Suf.tk h _) _
theorem Suf.r3 {s r : ByteArray} (h : Suf s r) : Suf s (Go.Proofs.YtobhacnimkccmaaGreatDoor.r3 r) := Suf.tk (Suf.t1 h) _
end
section
open Go.RowKit
def digL : Nat → Nat → List UInt8 → List UInt8
  | 0, _, l => l
  | f + 1, k, l => if k = 0 then l else digL f (k / 10) (UInt8.ofNat (48 + k % 10) :: l)
noncomputable def mkV (k : Int) : ByteArray := hidS (bs (109 :: digL 20 k.toNat []))
abbrev jl2 : List (Nat × List Nat × List Nat) := [(4, [0, 3], [0, 3])]
noncomputable def jg3 (ls : LS) : List (Bool × Ex × LS) := match ls with
  | [(.pv (.int .i64 k), none), (.pv (.str s), none)] =>
    [(decide (0 ≤ k) && holds (k ≤ 1000000000) && Nat.beq s.size 0, .exit 0, [aI 0, aS (hidS (bs (digL 20 k.toNat [])))])]
  | _ => []
noncomputable def jlO : LoopT := fun k ls => bif Nat.beq k 4 then jg3 ls else []
noncomputable def r_mkT (br : Br) (k : Int) (s : ByteArray) := rdB br Tryz.prog [] jl2 jlO Tryz.f117 4 [] [aI k, aS s]
noncomputable def q_mkT (br : Br) (k : Int) := evB br Tryz.prog [] jl2 jlO Tryz.f117 [cI k]
noncomputable def E_mkT : Entry := fun ivs => match ivs with
  | [.cv (.pv (.int .i64 k))] => [(decide (1 ≤ k) && holds (k ≤ 1000000000), cS (mkV k), [])]
  | _ => []
noncomputable def kfb0 : List (FuncId × Entry) := [(117, E_mkT)]
noncomputable def mkL : Int → List ByteArray → List ByteArray
  | _, [] => []
  | k, _ :: t => mkV k :: mkL (k + 1) t
abbrev jk5 : List (Nat × List Nat × List Nat) := [(2, [0, 1, 5], [0, 1])]
abbrev aWL (l : List ByteArray) : AV × Option Ob := (.own 0, some (.lst 1 9 l.length (l.map .str) true))
noncomputable def jhU (ls : LS) : List (Bool × Ex × LS) := match ls with
  | [(.own x, some (.lst 1 e n l true)), (.pv (.int .i64 k), none), (.pv (.int .i64 i), none)] =>
    [(isL (.sl n l) && Nat.beq e 9 && Nat.beq x 0 && (i == 0) && decide (1 ≤ k) && holds (k ≤ 900000000), .exit 0, [aWL (mkL k (asL (.sl n l))), aI (k + (asL (.sl n l)).length)])]
  | _ => []
noncomputable def jlR : LoopT := fun k ls => bif Nat.beq k 2 then jhU ls else []
noncomputable def r_mkS (br : Br) (l : List ByteArray) (k i : Int) := rdB br Tryz.prog kfb0 jk5 jlR Tryz.f57 2 [0] [aWL l, aI k, aI i]
noncomputable def q_mkS (br : Br) (l : List ByteArray) (k : Int) := evB br Tryz.prog kfb0 jk5 jlR Tryz.f57 [.lk false [] 1 9 l.length (l.map .str) [], cI k]
noncomputable def E_mkS : Entry := fun ivs => match ivs with
  | [.lk false [] 1 e n l [], .cv (.pv (.int .i64 k))] => [(isL (.sl n l) && Nat.beq e 9 && decide (1 ≤ k) && holds (k ≤ 900000000), cI (k + (asL (.sl n l)).length), [[.lst 1 9 n ((mkL k (asL (.sl n l))).map .str) true]])]
  | _ => []
noncomputable def kfb1 : List (FuncId × Entry) := (57, E_mkS) :: kfb0
abbrev jlW : List (Nat × List Nat × List Nat) := [(2, [0, 1, 5], [1])]
noncomputable def jhG (ls : LS) : List (Bool × Ex × LS) := match ls with
  | [(.pv p, none), (.pv (.int .i64 k), none), (.pv (.int .i64 i), none)] =>
    [(isL p && (i == 0) && decide (1 ≤ k) && holds (k ≤ 900000000) && holds (asL p = mkL k (asL p)), .exit 0, [aI (k + (asL p).length)])]
  | _ => []
noncomputable def jk7 : LoopT := fun k ls => bif Nat.beq k 2 then jhG ls else []
noncomputable def r_hdS (br : Br) (l : List ByteArray) (k i : Int) := rdB br Tryz.prog kfb0 jlW jk7 Tryz.f59 2 [] [aP (pL l), aI k, aI i]
noncomputable def q_hdS (br : Br) (l : List ByteArray) (k : Int) := evB br Tryz.prog kfb0 jlW jk7 Tryz.f59 [cP (pL l), cI k]
noncomputable def E_hdS : Entry := fun ivs => match ivs with
  | [.cv (.pv p), .cv (.pv (.int .i64 k))] => [(isL p && decide (1 ≤ k) && holds (k ≤ 900000000) && holds (asL p = mkL k (asL p)), cI (k + (asL p).length), [])]
  | _ => []
noncomputable def kfb4 : List (FuncId × Entry) := (59, E_hdS) :: kfb0
abbrev jfx : List (Nat × List Nat × List Nat) := [(4, [0, 1, 5], [0, 4])]
noncomputable def jga (ls : LS) : List (Bool × Ex × LS) := match ls with
  | [(.pv p, none), (.pv q, none), (.pv (.int .i64 i), none)] =>
    [(isL p && isL q && (i == 0) && decide ((asL p).length = (asL q).length) && holds (asL p = asL q), .exit 0, [aP p, aX]),
     (isL p && isL q && (i == 0) && decide ((asL p).length = (asL q).length), .ret, [aP p, aB false])]
  | _ => []
noncomputable def jfe : LoopT := fun k ls => bif Nat.beq k 4 then jga ls else []
noncomputable def jtk (br : Br) (l u : List ByteArray) (i : Int) := rdB br Tryz.prog [] jfx jfe Tryz.f55 4 [] [aP (pL l), aP (pL u), aI i]
noncomputable def jtH (br : Br) (l u : List ByteArray) := evB br Tryz.prog [] jfx jfe Tryz.f55 [cP (pL l), cP (pL u)]
noncomputable def E_eqSt : Entry := fun ivs => match ivs with
  | [.cv (.pv p), .cv (.pv q)] => [(isL p && isL q, cB (holds (asL p = asL q)), [])]
  | _ => []
noncomputable def kfb2 : List (FuncId × Entry) := [(55, E_eqSt)]
end
end Go.Proofs.YtobhacnimkccmaaGreatDoor
