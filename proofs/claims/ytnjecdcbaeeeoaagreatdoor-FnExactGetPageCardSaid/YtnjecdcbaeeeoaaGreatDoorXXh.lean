import Derived.Test.YtnjecdcbaeeeoaaGreatDoorXXg
import Derived.Test.YtnjecdcbaeeeoaaGreatDoorXXe
import Derived.Test.YtnjecdcbaeeeoaaGreatDoorXXf
import Derived.Test.YtnjecdcbaeeeoaaGreatDoorRepeat
import Derived.Test.YtnjecdcbaeeeoaaGreatDoorCutS
namespace Go.Proofs.YtnjecdcbaeeeoaaGreatDoor
noncomputable section
set_option linter.unusedVariables false
set_option linter.unusedSimpArgs false
set_option maxRecDepth 100000
section
open Go.RowKit
theorem jpF {w : World} {com : Nat → Nat} (h : Gl w com) : MaxLW w := by
 obtain ⟨m, h1, _⟩ := h.1
 exact ⟨m, h1⟩
theorem jgY : jac Tryz.prog 231 E_NumText := ⟨⟨_, Tryz.func231, by kernel_rfl, by kernel_rfl⟩, fun ivs res bxs h => by
 unfold E_NumText at h
 split at h
 ·rename_i n
  obtain ⟨hc, he⟩ := pick1 h
  cases he
  refine jaU (ps := [.int .i64 n]) (v := .string (bs (jax n))) rfl fun w com vals hv _ hgl => ?_
  obtain ⟨v, vs, rfl, hv1, hn⟩ := hv.of_cons
  rw [hn.of_nil]
  cases hv1
  refine (jfp n w (jhx hc) (jo0 hgl)).mono ?_
  rintro e w' ⟨r, hr, rfl, hb⟩
  exact ⟨by rw [← hr, ja7], hb⟩
 ·cases h⟩
theorem jmK : jac Tryz.prog 200 E_PutSubs := ⟨⟨_, Tryz.func200, by kernel_rfl, by kernel_rfl⟩, fun ivs res bxs h => by
 unfold E_PutSubs at h
 split at h
 ·rename_i p
  obtain ⟨hc, he⟩ := pick1 h
  cases he
  obtain ⟨xs, rfl, hx⟩ := jas hc
  have e4 : asL (pL xs) = xs := jam xs
  rw [e4]
  refine jaU (ps := [pL xs]) (v := .string (bs (putL xs))) rfl fun w com vals hv hfr hgl => ?_
  have hSub : Calls Tryz.prog 199 vals.toArray w fun e w' => e = .returned (.bool (subsB xs)) ∧ Below w.heap.size w w' := by
   have hk := jgR.2 [cP (pL xs)] (cB (subsB xs)) [] (by
    unfold E_ISubsOk
    dsimp only [pickA]
    rw [hc, e4]
    rfl)
   refine (jaG.plain (ps := [pL xs]) hk hv hfr hgl).mono ?_
   rintro e w' ⟨v, com', rfl, hp, _, _, _, hb⟩
   cases hp
   exact ⟨rfl, hb⟩
  obtain ⟨v, vs, rfl, hv1, hn⟩ := hv.of_cons
  rw [hn.of_nil] at hSub ⊢
  have fin : ∀ l : List UInt8, l = putL xs → Calls Tryz.prog 200 #[v] w (jaH l w) → Calls Tryz.prog 200 [v].toArray w fun e w' => e = .returned (.string (bs (putL xs))) ∧ Below w.heap.size w w' := fun l hl h => by
   refine h.mono ?_
   rintro e w' ⟨r, hr, rfl, hb⟩
   exact ⟨by rw [← hl, ← hr, ja7], hb⟩
  cases hB : subsB xs with
  | false =>
   rw [hB] at hSub
   exact fin [] (by unfold putL; rw [hB]; rfl) (jml v w hSub)
  | true =>
   rw [hB] at hSub
   have hE : putL xs = encL xs := by unfold putL; rw [if_pos hB]
   cases xs with
   | nil =>
    cases hv1 with
    | sl0 a c => exact fin [] (by rw [hE]; rfl) (jfZ a c w hSub)
    | sl b off n cap cs l hnc hl h1 hcm hm he => exact fin [] (by rw [hE]; rfl) (jfZ _ cap w hSub)
   | cons y ys =>
    cases hv1 with
    | sl b off _ cap cs _ hnc hl h1 hcm hm he =>
     have hcell : ∀ j (h : j < (y :: ys).length), w.cell? ⟨b, off + j, none⟩ = some (.string (y :: ys)[j]) := fun j h => by
      have hlen : cs.length = (y :: ys).length := by rw [hl, List.length_map]
      have hj : j < cs.length := by rw [hlen]; exact h
      have hj' : j < ((y :: ys).map PV.str).length := by rw [List.length_map]; exact h
      have hp := he j hj hj'
      rw [List.getElem_map] at hp
      have hc := hm j cs[j] (List.getElem?_eq_getElem hj)
      rw [hc]
      generalize cs[j] = u at hp
      cases hp
      rfl
     have hb0 : b < w.heap.size := by
      rcases Nat.lt_or_ge b w.heap.size with h | h
      ·exact h
      ·have := hcm 0 (by simp)
       rw [hfr b h] at this
       exact absurd this (Nat.not_lt_zero _)
     exact fin (encL (y :: ys)) hE.symm (jiD (y :: ys) b off cap w hcell hB hb0 hSub (jo0 hgl) (jpF hgl))
 ·cases h⟩
theorem jiX : jac Tryz.prog 198 E_getString := ⟨⟨_, Tryz.func198, by kernel_rfl, by kernel_rfl⟩, fun ivs res bxs h => by
 unfold E_getString at h
 split at h
 ·rename_i s
  obtain ⟨hc, he⟩ := pick1 h
  cases he
  rw [nqE, decide_eq_true_eq] at hc
  obtain ⟨⟨T, R⟩, hu⟩ := Option.isSome_iff_exists.1 hc.1
  rw [hu]
  intro w com vals bs' hI hnd hfresh hgl
  obtain ⟨hp, rfl⟩ := jfK (ps := [.str s]) hI
  obtain ⟨v, vs, rfl, hv1, hn⟩ := hp.of_cons
  rw [hn.of_nil]
  cases hv1
  refine (jhk s w T R hu hc.2).mono ?_
  rintro e w' ⟨⟨x, r, hx, hr, rfl⟩, hb⟩
  have ex : x = bs T := by rw [← hx, ja7]
  have er : r = bs R := by rw [← hr, ja7]
  subst ex
  subst er
  refine ⟨_, com, [], [], rfl, ⟨fun _ => Nat.le_refl _, fun b i hi => ?_⟩, ⟨hb.os, hb.tape, hb.output, hb.size, fun b hlt _ => hb.block b hlt⟩, fun b h => hfresh b (Nat.le_trans hb.size h), fun _ _ _ => rfl, ?_, .other _ _ _ _ _ _ rfl .nil, List.nodup_nil, fun b hb => by cases hb⟩
  ·have hlt : b < w.heap.size := by
    rcases Nat.lt_or_ge b w.heap.size with h | h
    ·exact h
    ·rw [hfresh b h] at hi; exact absurd hi (Nat.not_lt_zero _)
   exact jaU.cell_of_block (hb.block b hlt)
  ·exact .tup [.string (bs T), .string (bs R), .bool true] [cS (bs T), cS (bs R), cB true] [] (.cons (b1 := []) (.cv _ _ _ (.pv _ _ (.str _))) (.cons (b1 := []) (.cv _ _ _ (.pv _ _ (.str _))) (.cons (b1 := []) (.cv _ _ _ (.pv _ _ (.bool _))) .nil)))
 ·cases h⟩
theorem jhi (l : List UInt8) (c : UInt8) : beV (l ++ [c]) = beV l * 256 + c.toNat := by unfold beV; rw [List.foldl_append]; rfl
theorem jrG (l : List UInt8) : ∀ n, l.length = n → beV l < 256 ^ n := by
 intro n
 induction n generalizing l with
 | zero => intro h; rw [List.length_eq_zero_iff.1 h]; decide
 | succ n ih =>
  intro h
  have hne : l ≠ [] := fun e => by rw [e] at h; cases h
  obtain ⟨m, c, rfl⟩ : ∃ m c, l = m ++ [c] := ⟨l.dropLast, l.getLast hne, (List.dropLast_concat_getLast hne).symm⟩
  rw [nqG, List.length_singleton] at h
  have := ih m (by omega)
  have hc := UInt8.toNat_lt c
  rw [jhi, Nat.pow_succ]
  omega
theorem jkd : ∀ (k n a : Nat), (beK k n).foldl (fun n c => n * 256 + c.toNat) a = a * 256 ^ k + n % 256 ^ k
 | 0, n, a => by
  show a = _
  rw [Nat.pow_zero, Nat.mul_one, Nat.mod_one]
  rfl
 | k + 1, n, a => by
  unfold beK
  rw [List.foldl_cons, jkd k n, UInt8.toNat_ofNat_of_lt' (by simpa using Nat.mod_lt (n / 256 ^ k) (by decide : 0 < 256)), Nat.pow_succ, Nat.mod_mul, Nat.add_mul, Nat.mul_assoc, Nat.mul_comm 256 (256 ^ k), Nat.mul_comm (n / 256 ^ k % 256)]
  omega
theorem jlV {xs ys : List ByteArray} (h : encL xs = encL ys) : xs = ys := by
 have h1 := jjT xs ys
 have h2 := jjT ys xs
 rw [h, jhj] at h1 h2
 apply Classical.byContradiction
 intro hne
 have tot : ∀ {x y : List ByteArray}, x ≠ y → jdc x y = true ∨ jdc y x = true := by
  intro x
  induction x with
  | nil => intro y hn; cases y with
   | nil => exact absurd rfl hn
   | cons b y => exact .inl rfl
  | cons a x ih => intro y hn; cases y with
   | nil => exact .inr rfl
   | cons b y =>
    unfold jdc
    by_cases hab : a = b
    ·subst hab
     rw [if_pos (jhD a), if_pos (jhD a)]
     exact ih fun e => hn (by rw [e])
    ·rw [if_neg (fun e => hab (jeh.1 e)), if_neg (fun e => hab (jeh.1 e).symm)]
     have := jil (show a.data.toList ≠ b.data.toList from fun e => hab (ByteArray.ext (Array.ext' e)))
     rw [Bool.or_eq_true] at this
     exact this
 rcases tot hne with h | h
 ·rw [h] at h1; cases h1
 ·rw [h] at h2; cases h2
theorem jc4 (xs : List ByteArray) : decL (encL xs) = xs :=
 (jlV (@Classical.epsilon_spec (List ByteArray) (fun ys => encL xs = encL ys) ⟨xs, rfl⟩)).symm
theorem jaJ (l : List UInt8) : (bs l).data.toList = l := by show l.toArray.toList = l; simp
theorem jbt (l : List UInt8) : (ByteArray.toList (bs l) == ([] : List UInt8)) = l.isEmpty := by
 rw [jfn]
 cases l <;> rfl
end
section
open Go.RowKit
theorem andE {a b : Bool} (h : (a && b) = true) : a = true ∧ b = true := by
 cases a <;> cases b <;> simp_all
theorem jrN {α : Type} {a b c : Bool} {x y z q : α} (h : pickA [(a, x), (b, y), (c, z)] = some q) : (a = true ∧ x = q) ∨ (a = false ∧ b = true ∧ y = q) ∨ (a = false ∧ b = false ∧ c = true ∧ z = q) := by
 cases a with
 | true => cases h; exact .inl ⟨rfl, rfl⟩
 | false => exact .inr ((pick2 h).elim (fun k => .inl ⟨rfl, k⟩) (fun k => .inr ⟨rfl, k⟩))
def idxV {α : Type} (p : α → Bool) (xs : List α) : Nat := (xs.takeWhile fun x => !p x).length
theorem jkm {α : Type} {p : α → Bool} {x : α} {t : List α} (h : p x = true) : idxV p (x :: t) = 0 := by unfold idxV; rw [List.takeWhile_cons, h]; rfl
theorem jhc {α : Type} {p : α → Bool} {x : α} {t : List α} (h : p x = false) : idxV p (x :: t) = idxV p t + 1 := by unfold idxV; rw [List.takeWhile_cons, h]; rfl
theorem jh2 {α : Type} (p : α → Bool) : ∀ t : List α, decide (idxV p t < t.length) = t.any p
 | [] => rfl
 | x :: t => by
  rw [List.any_cons]
  cases h : p x with
  | true => rw [jkm h]; simp
  | false => rw [jhc h, Bool.false_or, ← jh2 p t, nqH]; simp
theorem jrQ (k n : Nat) : decide ((if k < n then (k : Int) else -1) ≥ 0) = decide (k < n) := by
 by_cases h : k < n
 ·rw [if_pos h, dT h, dT (by omega)]
 ·rw [if_neg h, dF h, dF (by omega)]
abbrev pI (xs : List Int) : PV := .sl xs.length (xs.map (PV.int .i64))
theorem jfC : ∀ {xs ys : List Int}, xs.map (PV.int .i64) = ys.map (PV.int .i64) → xs = ys
 | [], [], _ => rfl
 | [], _ :: _, h => by cases h
 | _ :: _, [], h => by cases h
 | x :: xs, y :: ys, h => by
  rw [List.map_cons, List.map_cons] at h
  injection h with h1 h2
  injection h1 with _ h1
  rw [h1, jfC h2]
theorem jrL (xs ys : List Int) (h : pI xs = pI ys) : xs = ys := by
 injection h with _ h
 exact jfC h
theorem jbO (xs : List Int) (i : Nat) (h : i < xs.length) : (xs.map (PV.int .i64)).drop (i * 1) = .int .i64 xs[i] :: (xs.drop (i + 1)).map (PV.int .i64) := by
 rw [Nat.mul_one, ← List.map_drop, nqK h]
 rfl
def shI (xs : List Int) : Prop := xs.length ≤ 100000 ∧ ∀ s ∈ xs, -9223372036854775808 ≤ s ∧ s ≤ 9223372036854775807
abbrev isI (p : PV) : Bool := isE pI shI p
abbrev asI (p : PV) : List Int := asE pI p
theorem jdf {xs : List Int} (h : shI xs) : isE pI shI (PV.sl xs.length (xs.map (PV.int .i64))) = true := jl7 (enc := pI) h
theorem jbd (xs : List Int) : asE pI (PV.sl xs.length (xs.map (PV.int .i64))) = xs := jlt jrL xs
end
section
open Go.RowKit
def bstr (l : List UInt8) : ByteArray := ⟨l.toArray⟩
def numL : List UInt8 → Nat
 | [] => 0
 | b :: t => b.toNat + 256 * numL t
def numV (s : ByteArray) : Int := ((numL s.data.toList : Nat) : Int)
def litL : Nat → Nat → List UInt8
 | 0, _ => []
 | k + 1, n => UInt8.ofNat n :: litL k (n / 256)
def hidS (s : ByteArray) : ByteArray := Classical.choose (⟨s, rfl⟩ : ∃ x, x = s)
theorem jcj (s : ByteArray) : hidS s = s := Classical.choose_spec (⟨s, rfl⟩ : ∃ x, x = s)
def litV (n : Int) (k : Nat) : ByteArray := hidS (bstr (litL k n.toNat))
theorem jg3 (n : Int) (k : Nat) : litV n k = bstr (litL k n.toNat) := jcj _
def E_within : Entry := fun ivs => match ivs with
 | [.cv (.pv (.int .i64 n)), .cv (.pv (.int .i64 a)), .cv (.pv (.int .i64 b))] => [(true, cB (decide (a ≤ n) && decide (n ≤ b)), [])]
 | _ => []
def jqy (br : Br) (n a b : Int) := evB br Tryz.prog [] [] LO0 Tryz.f118 [cI n, cI a, cI b]
def q_In (br : Br) (n a b : Int) := evB br Tryz.prog [] [] LO0 Tryz.f59 [cI n, cI a, cI b]
abbrev oB (slot : Nat) (l : List PV) : AV × Option Ob := (.own (4096 * slot), some (.lst 1 5 l.length l false))
def pvB (l : List UInt8) : List PV := l.map fun b => .int .u8 b.toNat
abbrev rdr (s : ByteArray) (b : Bool) : List CV := [.pv (.str s), .pv (.bool b)]
def tkS (s : ByteArray) (n : Nat) : ByteArray := if n ≤ s.size then s.extract 0 n else ⟨#[]⟩
def tkR (s : ByteArray) (n : Nat) : ByteArray := if n ≤ s.size then s.extract n s.size else s
def tkB (s : ByteArray) (b : Bool) (n : Nat) : Bool := if n ≤ s.size then b else true
def jtL (br : Br) (s : ByteArray) (b : Bool) (n : Int) := evB br Tryz.prog [] [] LO0 Tryz.f43 [.box 0 (rdr s b), cI n]
def E_take : Entry := fun ivs => match ivs with
 | [.box 0 [.pv (.str s), .pv (.bool b)], .cv (.pv (.int .i64 n))] =>
  [(decide (0 ≤ n) && decide (s.size ≤ 2000000), cS (tkS s n.toNat), [rdr (tkR s n.toNat) (tkB s b n.toNat)])]
 | _ => []
def byb0 : List (FuncId × Entry) := [(43, E_take)]
def juB (br : Br) (s : ByteArray) (b : Bool) := evB br Tryz.prog byb0 [] LO0 Tryz.f42 [.box 0 (rdr s b)]
def oneV (s : ByteArray) : Int := numV (tkS s 1)
def E_rone : Entry := fun ivs => match ivs with
 | [.box 0 [.pv (.str s), .pv (.bool b)]] => [(decide (s.size ≤ 2000000), cI (oneV s), [rdr (tkR s 1) (tkB s b 1)])]
 | _ => []
def zerV (n : Nat) : ByteArray := bstr (List.replicate n 0)
def E_Rep : Entry := fun ivs => match ivs with
 | [.cv (.pv (.str s)), .cv (.pv (.int .i64 c))] => [(decide (0 ≤ c) && decide (c ≤ 100000) && decide (s.data.toList = [0]), cS (zerV c.toNat), [])]
 | _ => []
end
section
theorem jnR (s : ByteArray) (b : Bool) : juB brC s b =
 brC (decide (0 ≤ 1) && decide (ByteArray.size s ≤ 2000000))
 (brC (ByteArray.toList (tkS s 1) == [])
 (some ((.cv (.pv (.int .i64 (Int.ofNat 0))), [[.pv (.str (tkR s 1)), .pv (.bool (tkB s b 1))]])))
 (brC (decide (0 ≤ 0) && decide (0 < (↑(ByteArray.size (tkS s 1)) : Int)) && true)
 (some ((.cv (.pv (.int .i64 (IntKind.wrap .i64 (↑(UInt8.toNat (List.getD (Array.toList (ByteArray.data (tkS s 1))) 0 0)) : Int)))), [[.pv (.str (tkR s 1)), .pv (.bool (tkB s b 1))]])))
 none))
 none := by kernel_rfl
theorem jnZ (s : ByteArray) (b : Bool) (n : Int) : jtL brC s b n =
 brC (decide (n > (↑(ByteArray.size s) : Int)))
 (some ((.cv (.pv (.str { data := #[] })), [[.pv (.str s), .pv (.bool true)]])))
 (brC (decide (0 ≤ 0) && decide (0 ≤ n) && decide (n ≤ (↑(ByteArray.size s) : Int)) && true && true)
 (brC (decide (0 ≤ n) && decide (n ≤ (↑(ByteArray.size s) : Int)) && decide ((↑(ByteArray.size s) : Int) ≤ (↑(ByteArray.size s) : Int)) && true && true)
 (some ((.cv (.pv (.str (ByteArray.extract s 0 (Int.toNat n)))), [[.pv (.str (ByteArray.extract s (Int.toNat n) (Int.toNat (↑(ByteArray.size s) : Int)))), .pv (.bool b)]])))
 none)
 none) := by kernel_rfl
theorem jtv (n : Int) (a : Int) (b : Int) : q_In brC n a b =
 brC (decide (n ≥ a))
 (some ((.cv (.pv (.bool (decide (n ≤ b)))), [])))
 (some ((.cv (.pv (.bool false)), []))) := by kernel_rfl
theorem jjO (n : Int) (a : Int) (b : Int) : jqy brC n a b =
 brC (decide (a ≤ n))
 (some ((.cv (.pv (.bool (decide (n ≤ b)))), [])))
 (some ((.cv (.pv (.bool false)), []))) := by kernel_rfl
end
section
open Go.RowKit
theorem jfq : jac Tryz.prog 118 E_within := jag mix (tab := []) trivial (lp := []) (LO := LO0) ⟨Tryz.func118, by kernel_rfl, by kernel_rfl⟩ (by kernel_rfl) fun ivs res bxs h => by
 unfold E_within at h
 split at h
 ·rename_i n a b
  obtain ⟨hc, he⟩ := pick1 h
  cases he
  refine ⟨jap (by kernel_rfl), (jjO n a b).trans ?_⟩
  cases decide (a ≤ n) <;> cases decide (n ≤ b) <;> rfl
 ·cases h
theorem ok_In : jac Tryz.prog 59 E_within := jag mix (tab := []) trivial (lp := []) (LO := LO0) ⟨Tryz.func59, by kernel_rfl, by kernel_rfl⟩ (by kernel_rfl) fun ivs res bxs h => by
 unfold E_within at h
 split at h
 ·rename_i n a b
  obtain ⟨hc, he⟩ := pick1 h
  cases he
  refine ⟨jap (by kernel_rfl), (jtv n a b).trans ?_⟩
  rw [show decide (n ≥ a) = decide (a ≤ n) from rfl]
  cases decide (a ≤ n) <;> cases decide (n ≤ b) <;> rfl
 ·cases h
theorem jdY (s : ByteArray) : s.data.toList.length = s.size := Array.length_toList
theorem jnD : ∀ l : List UInt8, numL l < 256 ^ l.length
 | [] => by decide
 | b :: t => by
  have h := jnD t
  have hb := b.toNat_lt
  show b.toNat + 256 * numL t < 256 ^ (t.length + 1)
  rw [Nat.pow_succ]
  generalize 256 ^ t.length = x at h ⊢
  omega
theorem u8w (n : Nat) : IntKind.wrap .u8 (n : Int) = (((UInt8.ofNat n).toNat : Nat) : Int) := by
 have e : IntKind.wrap .u8 (n : Int) = (n : Int) % 256 := by unfold IntKind.wrap; rfl
 rw [e, UInt8.toNat_ofNat']
 omega
theorem jcN (a b : List UInt8) : pvB (a ++ b) = pvB a ++ pvB b := List.map_append
theorem jdo (a : List UInt8) : (pvB a).length = a.length := List.length_map _
theorem jmb : ∀ (k n : Nat), (litL k n).length = k
 | 0, _ => rfl
 | k + 1, n => by show (litL k (n / 256)).length + 1 = k + 1; rw [jmb k]
theorem jbS : ∀ X : List UInt8, jaq (pvB X) = some X
 | [] => rfl
 | c :: X => by
  show (jaq (pvB X)).bind (fun r => some (UInt8.ofNat (Int.toNat (c.toNat : Int)) :: r)) = _
  rw [jbS X, nqF]
  simp
theorem jof : jac Tryz.prog 43 E_take := jag mix (tab := []) trivial (lp := []) (LO := LO0) ⟨Tryz.func43, by kernel_rfl, by kernel_rfl⟩ (by kernel_rfl) fun ivs res bxs h => by
 unfold E_take at h
 split at h
 ·rename_i s b n
  obtain ⟨hc, he⟩ := pick1 h
  cases he
  obtain ⟨k0, k1⟩ := andE hc
  have h0 := nqI k0
  have h1 := nqI k1
  obtain ⟨n, rfl⟩ := Int.eq_ofNat_of_zero_le h0
  refine ⟨jap (by kernel_rfl), (jnZ s b n).trans ?_⟩
  rw [nqF, nqF]
  unfold tkS tkR tkB
  by_cases hn : n ≤ s.size
  ·rw [if_pos hn, if_pos hn, if_pos hn, dF (show ¬ (n : Int) > (s.size : Int) by omega)]
   simp (disch := omega) only [dT, Bool.and_true]
   rfl
  ·rw [if_neg hn, if_neg hn, if_neg hn, dT (show (n : Int) > (s.size : Int) by omega)]
   rfl
 ·cases h
theorem jsN : jah Tryz.prog byb0 := ⟨jof, trivial⟩
theorem tkS1 {s : ByteArray} (h : 1 ≤ s.size) : (tkS s 1).data.toList = [s.data.toList.getD 0 0] := by
 unfold tkS
 rw [if_pos h, jau]
 have : 0 < s.data.toList.length := by rw [jdY]; exact h
 cases hl : s.data.toList with
 | nil => rw [hl] at this; cases this
 | cons a t => rfl
theorem tkS0 {s : ByteArray} (h : ¬ 1 ≤ s.size) : tkS s 1 = ⟨#[]⟩ := if_neg h
theorem jsu : jac Tryz.prog 42 E_rone := jag mix jsN (lp := []) (LO := LO0) ⟨Tryz.func42, by kernel_rfl, by kernel_rfl⟩ (by kernel_rfl) fun ivs res bxs h => by
 unfold E_rone at h
 split at h
 ·rename_i s b
  obtain ⟨hc, he⟩ := pick1 h
  cases he
  have h1 := nqI hc
  refine ⟨jap (by kernel_rfl), (jnR s b).trans ?_⟩
  rw [hc]
  unfold oneV numV
  by_cases hn : 1 ≤ s.size
  ·have e1 := tkS1 hn
   have e2 : (tkS s 1).toList = [s.data.toList.getD 0 0] := by rw [ByteArray.toList_eq]; exact e1
   have e3 : (tkS s 1).size = 1 := by rw [← jdY, e1]; rfl
   have hb := (s.data.toList.getD 0 0).toNat_lt
   have e4 : (List.getD [s.data.toList.getD 0 0] 0 0) = s.data.toList.getD 0 0 := rfl
   rw [e2, e3, e1, e4]
   have w : IntKind.wrap .i64 (((s.data.toList.getD 0 0).toNat : Nat) : Int) = (((s.data.toList.getD 0 0).toNat : Nat) : Int) := wrapI (by omega) (by omega)
   rw [w]
   rfl
  ·rw [tkS0 hn, show (⟨#[]⟩ : ByteArray).toList = [] from ByteArray.toList_mk []]
   rfl
 ·cases h
theorem jrp (k : Nat) : Lib.repeatL [(0 : UInt8)] k = List.replicate k 0 := by
 induction k with
 | zero => rfl
 | succ k ih => show [0] ++ Lib.repeatL [0] k = _; rw [ih]; rfl
theorem jul : jac Tryz.prog 54 E_Rep := ⟨⟨_, Tryz.func54, by kernel_rfl, by kernel_rfl⟩, fun ivs res bxs h => by
 unfold E_Rep at h
 split at h
 ·rename_i s c
  obtain ⟨hc, he⟩ := pick1 h
  cases he
  simp only [nqE, decide_eq_true_eq] at hc
  obtain ⟨⟨h1, h2⟩, h3⟩ := hc
  obtain ⟨k, rfl⟩ := Int.eq_ofNat_of_zero_le h1
  refine jaQ (ps := [.str s, .int .i64 k]) (v := .string (zerV k)) rfl fun w com vals hv _ => ?_
  obtain ⟨v, vs, rfl, hv1, hn⟩ := hv.of_cons
  obtain ⟨v2, vs2, rfl, hv2, hn2⟩ := hn.of_cons
  rw [hn2.of_nil]
  cases hv1
  cases hv2
  have hz : s.size = 1 := by rw [← jdY, h3]; rfl
  refine (Tryz.strings_Repeat s k w (by omega) (by rw [hz]; omega)).mono ?_
  rintro e w1 ⟨rfl, hb⟩
  refine ⟨?_, hb⟩
  rw [h3, jrp]
  rfl
 ·cases h⟩
end
section
open Go.RowKit
def numTx (n : Int) : ByteArray := if numIn n = true then bs (jax n) else ⟨#[]⟩
def kab0 : List (FuncId × Entry) := [(118, E_within)]
def jse (br : Br) (n : Int) := evB br Tryz.prog kab0 [] LO0 Tryz.f255 [cI n]
def E_isNum : Entry := fun ivs => match ivs with
 | [.cv (.pv (.int .i64 n))] => [(true, cB (numIn n), [])]
 | _ => []
def kab1 : List (FuncId × Entry) := [(255, E_isNum)]
def jm5 (br : Br) (n : Int) := evB br Tryz.prog kab1 [] LO0 Tryz.f231 [cI n]
def E_NumTextO : Entry := fun ivs => match ivs with
 | [.cv (.pv (.int .i64 n))] => [(!numIn n, cS ⟨#[]⟩, [])]
 | _ => []
def E_NumText2 : Entry := fun ivs => match ivs with
 | [.cv (.pv (.int .i64 n))] => [(true, cS (numTx n), [])]
 | _ => []
def gnO (s : ByteArray) : Bool := decide (8 ≤ s.size) && decide (beV (s.data.toList.take 8) ≤ 2000000000000000000)
def gnT (s : ByteArray) : ByteArray := if gnO s = true then numTx ((beV (s.data.toList.take 8) : Int) - 1000000000000000000) else ⟨#[]⟩
def gnR (s : ByteArray) : ByteArray := if gnO s = true then bs (s.data.toList.drop 8) else ⟨#[]⟩
def gsO (s : ByteArray) : Bool := (unesc s.data.toList).isSome
def gsT (s : ByteArray) : ByteArray := bs ((unesc s.data.toList).getD ([], [])).1
def gsR (s : ByteArray) : ByteArray := bs ((unesc s.data.toList).getD ([], [])).2
def kab2 : List (FuncId × Entry) := [(231, E_NumText2)]
def jus (br : Br) (s : ByteArray) (x i : Int) := rdB br Tryz.prog kab2 jdE jcF Tryz.f197 5 [] [aS s, (.pv (.int .u64 x), none), aI i]
def jt8 (br : Br) (s : ByteArray) := evB br Tryz.prog kab2 jdE jcF Tryz.f197 [cS s]
def E_gNum : Entry := fun ivs => match ivs with
 | [.cv (.pv (.str s))] => [(decide (s.size ≤ 2000), .tup [cS (gnT s), cS (gnR s), cB (gnO s)], [])]
 | _ => []
def E_gStr : Entry := fun ivs => match ivs with
 | [.cv (.pv (.str s))] => [(decide (s.size ≤ 2000), .tup [cS (gsT s), cS (gsR s), cB (gsO s)], [])]
 | _ => []
def subG (r : ByteArray) : Option (ByteArray × ByteArray) :=
 if ((r.data.toList.getD 0 0).toNat : Int) = 1 then (if gnO (r.extract 1 r.size) = true then some (gnT (r.extract 1 r.size), gnR (r.extract 1 r.size)) else none)
 else if ((r.data.toList.getD 0 0).toNat : Int) = 2 then (if gsO (r.extract 1 r.size) = true then some (gsT (r.extract 1 r.size), gsR (r.extract 1 r.size)) else none) else none
def walkG : Nat → List ByteArray → ByteArray → Bool × List ByteArray
 | 0, xs, _ => (true, xs)
 | k + 1, xs, r => if (r.toList == []) = true then (true, xs) else match subG r with | none => (false, xs) | some p => walkG k (xs ++ [p.1]) p.2
def kab3 : List (FuncId × Entry) := (197, E_gNum) :: (198, E_gStr) :: (199, E_ISubsOk) :: [(200, E_PutSubs)]
abbrev jdX : List (Nat × List Nat × List Nat) := [(2, [0, 4, 5], [0, 2, 3, 4]), (1000000, [8], [])]
abbrev aSs (slot : Nat) (l : List ByteArray) : AV × Option Ob := aM slot 1 9 l.length (l.map .str)
def jeY (ls : LS) : List (Bool × Ex × LS) := match ls with
 | [(.pv (.str s), none), (.own x, some (.lst 1 e cn cl true)), (.pv (.str r), none)] =>
  [(decide (r.size ≤ 2000) && (walkG 5 [] r).1 && Nat.beq e 9 && Nat.beq x 16384 && Nat.beq cn 0 && nilB cl, .exit 0, [aS s, aX, aX, aSs 4 (walkG 5 [] r).2]),
   (decide (r.size ≤ 2000) && Nat.beq e 9 && Nat.beq x 16384 && Nat.beq cn 0 && nilB cl, .ret, [aS s, aP .nils, aB false, aSs 4 (walkG 5 [] r).2])]
 | _ => []
def jdZ : LoopT := fun k ls => bif Nat.beq k 2 then jeY ls else []
def jtZ (br : Br) (s : ByteArray) (cn : Nat) (cl : List PV) (r : ByteArray) := rdB br Tryz.prog kab3 jdX jdZ Tryz.f146 2 [] [aS s, aM 4 1 9 cn cl, aS r]
def jue (br : Br) (s : ByteArray) := evB br Tryz.prog kab3 jdX jdZ Tryz.f146 [cS s]
abbrev cSs (l : List ByteArray) : IV := .cv (.lst 1 9 l.length (l.map .str) true)
def E_GetSubs2 : Entry := fun ivs => match ivs with
 | [.cv (.pv (.str s))] => [(decide (s.size ≤ 2000) && holds (isEnc s.data.toList), .tup [cSs (decL s.data.toList), cB true], []), (decide (s.size ≤ 2000), .tup [cP .nils, cB false], [])]
 | _ => []
def E_Cut2 : Entry := fun ivs => match ivs with
 | [.cv (.pv (.str s)), .cv (.pv (.str t))] => [(decide (s.size ≤ 1000000), .tup [cS (bs (Lib.cut s.data.toList t.data.toList).1), cS (bs (Lib.cut s.data.toList t.data.toList).2.1), cB (Lib.cut s.data.toList t.data.toList).2.2], [])]
 | _ => []
def kab4 : List (FuncId × Entry) := (145, E_Cut2) :: (146, E_GetSubs2) :: [(147, E_INameOk)]
def js0 (br : Br) (a : ByteArray) := evB br Tryz.prog kab4 [] LO0 Tryz.f74 [cS a]
def isKy (a : ByteArray) : Prop := ∃ x : ByteArray × List ByteArray, a.data.toList = keyL x.1 x.2 ∧ jbD x.1 x.2 = true
def deKy (a : ByteArray) : ByteArray × List ByteArray := @Classical.epsilon _ ⟨(⟨#[]⟩, [])⟩ fun x : ByteArray × List ByteArray => a.data.toList = keyL x.1 x.2 ∧ jbD x.1 x.2 = true
def E_KeyPl : Entry := fun ivs => match ivs with
 | [.cv (.pv (.str a))] => [(decide (a.size ≤ 2000) && holds (isKy a), .tup [cS (deKy a).1, cSs (deKy a).2, cB true], []), (decide (a.size ≤ 2000), .tup [cS ⟨#[]⟩, cP .nils, cB false], [])]
 | _ => []
end
section
theorem jib (n : Int) : jm5 brC n =
 brC (!numIn n)
 (some ((.cv (.pv (.str { data := #[] })), [])))
 (brC (n == 0)
 (some ((.cv (.pv (.str { data := #[48] })), [])))
 (brC (decide (n < 0))
 (brC (decide (IntKind.wrap .i64 (0 - n) ≥ 1000000))
 none
 (brC (decide (Int.tmod (IntKind.wrap .i64 (0 - n)) 1000000 > 0))
 none
 (some ((.cv (.pv (.str { data := #[45] })), [])))))
 (brC (decide (n ≥ 1000000))
 none
 (brC (decide (Int.tmod n 1000000 > 0))
 none
 (some ((.cv (.pv (.str { data := #[] })), []))))))) := by kernel_rfl
theorem jmS (a : ByteArray) : js0 brC a =
 brC (decide (ByteArray.size a ≤ 1000000))
 (brC (decide (ByteArray.size (bs (Prod.fst (Prod.snd (Lib.cut (Array.toList (ByteArray.data a)) [1])))) ≤ 2000) && holds (isEnc (Array.toList (ByteArray.data (bs (Prod.fst (Prod.snd (Lib.cut (Array.toList (ByteArray.data a)) [1]))))))))
 (brC (!Prod.snd (Prod.snd (Lib.cut (Array.toList (ByteArray.data a)) [1])))
 (some ((.tup [.cv (.pv (.str { data := #[] })), .cv (.pv .nils), .cv (.pv (.bool false))], [])))
 (brC (decide (ByteArray.size (bs (Prod.fst (Lib.cut (Array.toList (ByteArray.data a)) [1]))) ≤ 1000000))
 (brC (!nameB (bs (Prod.fst (Lib.cut (Array.toList (ByteArray.data a)) [1]))))
 (some ((.tup [.cv (.pv (.str { data := #[] })), .cv (.pv .nils), .cv (.pv (.bool false))], [])))
 (some ((.tup [.cv (.pv (.str (bs (Prod.fst (Lib.cut (Array.toList (ByteArray.data a)) [1]))))), .cv (.lst 1 9 (List.length (decL (Array.toList (ByteArray.data (bs (Prod.fst (Prod.snd (Lib.cut (Array.toList (ByteArray.data a)) [1])))))))) (List.map PV.str (decL (Array.toList (ByteArray.data (bs (Prod.fst (Prod.snd (Lib.cut (Array.toList (ByteArray.data a)) [1])))))))) true), .cv (.pv (.bool true))], []))))
 none))
 (brC (decide (ByteArray.size (bs (Prod.fst (Prod.snd (Lib.cut (Array.toList (ByteArray.data a)) [1])))) ≤ 2000))
 (brC (!Prod.snd (Prod.snd (Lib.cut (Array.toList (ByteArray.data a)) [1])))
 (some ((.tup [.cv (.pv (.str { data := #[] })), .cv (.pv .nils), .cv (.pv (.bool false))], [])))
 (some ((.tup [.cv (.pv (.str { data := #[] })), .cv (.pv .nils), .cv (.pv (.bool false))], []))))
 none))
 none := by kernel_rfl
theorem jiL (s : ByteArray) (cn : Nat) (cl : List PV) (r : ByteArray) : jtZ brC s cn cl r =
 brC (!ByteArray.toList r == [])
 (brC (decide ((↑cn : Int) ≤ 4))
 (brC (decide (0 ≤ 0) && decide (0 < (↑(ByteArray.size r) : Int)) && true)
 (brC ((↑(UInt8.toNat (List.getD (Array.toList (ByteArray.data r)) 0 0)) : Int) == 1)
 (brC (decide (0 ≤ 1) && decide (1 ≤ (↑(ByteArray.size r) : Int)) && decide ((↑(ByteArray.size r) : Int) ≤ (↑(ByteArray.size r) : Int)) && true && true)
 (brC (decide (ByteArray.size (ByteArray.extract r 1 (Int.toNat (↑(ByteArray.size r) : Int))) ≤ 2000))
 (brC (!gnO (ByteArray.extract r 1 (Int.toNat (↑(ByteArray.size r) : Int))))
 (some (.inr (.ret, [(.pv (.str s), none), (.pv .nils, none), (.pv (.bool false), none), (.own 16384, some (.lst 1 9 cn cl true))])))
 (brC (Nat.beq (List.length [PV.str (gnT (ByteArray.extract r 1 (Int.toNat (↑(ByteArray.size r) : Int))))]) (1 * 1) && (decide (cn + 1 ≤ 140737488351232) && decide ((cn + 1) * 16 ≤ 140737488355328)))
 (some (.inl [(.pv (.str s), none), (.own 16384, some (.lst 1 9 (cn + 1) (cl ++ [PV.str (gnT (ByteArray.extract r 1 (Int.toNat (↑(ByteArray.size r) : Int))))]) true)), (.pv (.str (gnR (ByteArray.extract r 1 (Int.toNat (↑(ByteArray.size r) : Int))))), none)]))
 none))
 none)
 none)
 (brC ((↑(UInt8.toNat (List.getD (Array.toList (ByteArray.data r)) 0 0)) : Int) == 2)
 (brC (decide (0 ≤ 1) && decide (1 ≤ (↑(ByteArray.size r) : Int)) && decide ((↑(ByteArray.size r) : Int) ≤ (↑(ByteArray.size r) : Int)) && true && true)
 (brC (decide (ByteArray.size (ByteArray.extract r 1 (Int.toNat (↑(ByteArray.size r) : Int))) ≤ 2000))
 (brC (!gsO (ByteArray.extract r 1 (Int.toNat (↑(ByteArray.size r) : Int))))
 (some (.inr (.ret, [(.pv (.str s), none), (.pv .nils, none), (.pv (.bool false), none), (.own 16384, some (.lst 1 9 cn cl true))])))
 (brC (Nat.beq (List.length [PV.str (gsT (ByteArray.extract r 1 (Int.toNat (↑(ByteArray.size r) : Int))))]) (1 * 1) && (decide (cn + 1 ≤ 140737488351232) && decide ((cn + 1) * 16 ≤ 140737488355328)))
 (some (.inl [(.pv (.str s), none), (.own 16384, some (.lst 1 9 (cn + 1) (cl ++ [PV.str (gsT (ByteArray.extract r 1 (Int.toNat (↑(ByteArray.size r) : Int))))]) true)), (.pv (.str (gsR (ByteArray.extract r 1 (Int.toNat (↑(ByteArray.size r) : Int))))), none)]))
 none))
 none)
 none)
 (some (.inr (.ret, [(.pv (.str s), none), (.pv .nils, none), (.pv (.bool false), none), (.own 16384, some (.lst 1 9 cn cl true))])))))
 none)
 (some (.inr (.exit 0, [(.pv (.str s), none), (.bad, none), (.bad, none), (.own 16384, some (.lst 1 9 cn cl true))]))))
 (some (.inr (.exit 0, [(.pv (.str s), none), (.bad, none), (.bad, none), (.own 16384, some (.lst 1 9 cn cl true))]))) := by kernel_rfl
theorem jnV (s : ByteArray) : jt8 brC s =
 brC (decide ((↑(ByteArray.size s) : Int) < 8))
 (some ((.tup [.cv (.pv (.str { data := #[] })), .cv (.pv (.str { data := #[] })), .cv (.pv (.bool false))], [])))
 (brC (decide (8 ≤ ByteArray.size s) && 0 == 0 && 0 == 0)
 (brC (decide ((↑(beV (List.take 8 (Array.toList (ByteArray.data s)))) : Int) > 2000000000000000000))
 (some ((.tup [.cv (.pv (.str { data := #[] })), .cv (.pv (.str { data := #[] })), .cv (.pv (.bool false))], [])))
 (brC (decide (0 ≤ 8) && decide (8 ≤ (↑(ByteArray.size s) : Int)) && decide ((↑(ByteArray.size s) : Int) ≤ (↑(ByteArray.size s) : Int)) && true && true)
 (some ((.tup [.cv (.pv (.str (numTx (IntKind.wrap .i64 (IntKind.wrap .i64 (↑(beV (List.take 8 (Array.toList (ByteArray.data s)))) : Int) - 1000000000000000000))))), .cv (.pv (.str (ByteArray.extract s 8 (Int.toNat (↑(ByteArray.size s) : Int))))), .cv (.pv (.bool true))], [])))
 none))
 none) := by kernel_rfl
theorem jnn (n : Int) : jse brC n =
 some ((.cv (.pv (.bool (decide (-999999999999999999 ≤ n) && decide (n ≤ 999999999999999999)))), [])) := by kernel_rfl
theorem jiy (s : ByteArray) (x : Int) (i : Int) : jus brC s x i =
 brC (decide (i < 8))
 (brC (decide (0 ≤ i) && decide (i < (↑(ByteArray.size s) : Int)) && true)
 (some (.inl [(.pv (.str s), none), (.pv (.int .u64 (IntKind.wrap .u64 (IntKind.wrap .u64 (x * 2 ^ 8) + IntKind.wrap .u64 (↑(UInt8.toNat (List.getD (Array.toList (ByteArray.data s)) (Int.toNat i) 0)) : Int)))), none), (.pv (.int .i64 (IntKind.wrap .i64 (i + 1))), none)]))
 none)
 (some (.inr (.exit 0, [(.pv (.str s), none), (.pv (.int .u64 x), none)]))) := by kernel_rfl
theorem jpk (s : ByteArray) : jue brC s =
 brC (decide (ByteArray.size s ≤ 2000) && Prod.fst (walkG 5 [] s) && Nat.beq 9 9 && Nat.beq 16384 16384 && Nat.beq 0 0 && nilB [])
 (brC (isL (PV.sl (List.length (Prod.snd (walkG 5 [] s))) (List.map PV.str (Prod.snd (walkG 5 [] s)))))
 (brC (!subsB (asL (PV.sl (List.length (Prod.snd (walkG 5 [] s))) (List.map PV.str (Prod.snd (walkG 5 [] s))))))
 (some ((.tup [.cv (.pv .nils), .cv (.pv (.bool false))], [])))
 (brC (isL (PV.sl (List.length (Prod.snd (walkG 5 [] s))) (List.map PV.str (Prod.snd (walkG 5 [] s)))))
 (brC (!ByteArray.toList (bs (putL (asL (PV.sl (List.length (Prod.snd (walkG 5 [] s))) (List.map PV.str (Prod.snd (walkG 5 [] s))))))) == ByteArray.toList s)
 (some ((.tup [.cv (.pv .nils), .cv (.pv (.bool false))], [])))
 (some ((.tup [.cv (.lst 1 9 (List.length (Prod.snd (walkG 5 [] s))) (List.map PV.str (Prod.snd (walkG 5 [] s))) true), .cv (.pv (.bool true))], []))))
 none))
 none)
 (brC (decide (ByteArray.size s ≤ 2000) && Nat.beq 9 9 && Nat.beq 16384 16384 && Nat.beq 0 0 && nilB [])
 (some ((.tup [.cv (.pv .nils), .cv (.pv (.bool false))], [])))
 none) := by kernel_rfl
end
section
open Go.RowKit
theorem jtg : jah Tryz.prog kab0 := ⟨jfq, trivial⟩
theorem jqg : jac Tryz.prog 255 E_isNum := jag mix jtg (lp := []) (LO := LO0) ⟨Tryz.func255, by kernel_rfl, by kernel_rfl⟩ (by kernel_rfl) fun ivs res bxs h => by
 unfold E_isNum at h
 split at h
 ·rename_i n
  obtain ⟨hc, he⟩ := pick1 h
  cases he
  exact ⟨jap (by kernel_rfl), (jnn n).trans rfl⟩
 ·cases h
theorem js2 : jah Tryz.prog kab1 := ⟨jqg, trivial⟩
theorem jj2 : jac Tryz.prog 231 E_NumTextO := jag mix js2 (lp := []) (LO := LO0) ⟨Tryz.func231, by kernel_rfl, by kernel_rfl⟩ (by kernel_rfl) fun ivs res bxs h => by
 unfold E_NumTextO at h
 split at h
 ·rename_i n
  obtain ⟨hc, he⟩ := pick1 h
  cases he
  refine ⟨jap (by kernel_rfl), (jib n).trans ?_⟩
  rw [hc]
  rfl
 ·cases h
theorem jkl : jac Tryz.prog 231 E_NumText2 := ⟨jgY.1, fun ivs res bxs h => by
 unfold E_NumText2 at h
 split at h
 ·rename_i n
  obtain ⟨_, he⟩ := pick1 h
  cases he
  unfold numTx
  cases hn : numIn n with
  | true =>
   rw [if_pos rfl]
   exact jgY.2 [cI n] (cS (bs (jax n))) [] (by unfold E_NumText; dsimp only [pickA]; rw [hn]; rfl)
  | false =>
   rw [if_neg Bool.false_ne_true]
   exact jj2.2 [cI n] (cS ⟨#[]⟩) [] (by unfold E_NumTextO; dsimp only [pickA]; rw [hn]; rfl)
 ·cases h⟩
theorem jsz : jah Tryz.prog kab2 := ⟨jkl, trivial⟩
theorem joK (s : ByteArray) (hs : 8 ≤ s.data.toList.length) : ∀ (m i : Nat), m + i = 8 → LoopsTo (rdB brC Tryz.prog kab2 jdE jcF Tryz.f197 5 []) [aS s, (.pv (.int .u64 (beV (s.data.toList.take i))), none), aI i]
  (.exit 0, [aS s, (.pv (.int .u64 (beV (s.data.toList.take 8))), none)]) := by
 have hl : s.size = s.data.toList.length := jab s
 intro m
 induction m with
 | zero =>
  intro i hm
  obtain rfl : i = 8 := by omega
  refine .done _ _ ((jiy s _ ((8 : Nat) : Int)).trans ?_)
  rfl
 | succ m ih =>
  intro i hm
  have ih' := ih (i + 1) (by omega)
  have hi : i < s.data.toList.length := by omega
  have tree := jiy s (beV (s.data.toList.take i)) i
  have hb := jrG (s.data.toList.take i) i (by rw [List.length_take]; omega)
  have hp : 256 ^ i ≤ 256 ^ 7 := Nat.pow_le_pow_right (by decide) (by omega)
  have big : (256 : Nat) ^ 7 = 72057594037927936 := by decide
  have hc := UInt8.toNat_lt s.data.toList[i]
  have hg : s.data.toList.getD i 0 = s.data.toList[i] := by rw [List.getD_eq_getElem?_getD, List.getElem?_eq_getElem hi]; rfl
  have e1 : IntKind.wrap .u64 (((beV (s.data.toList.take i) : Nat) : Int) * 2 ^ 8) = ((beV (s.data.toList.take i) * 256 : Nat) : Int) := by
   rw [show (2 : Int) ^ 8 = 256 from rfl, Go.IntWalk.u64_in _ ⟨by omega, by omega⟩]
   omega
  have e2 : IntKind.wrap .u64 ((s.data.toList[i].toNat : Nat) : Int) = ((s.data.toList[i].toNat : Nat) : Int) := Go.IntWalk.u64_in _ ⟨by omega, by omega⟩
  have e3 : IntKind.wrap .u64 (((beV (s.data.toList.take i) * 256 : Nat) : Int) + ((s.data.toList[i].toNat : Nat) : Int)) = ((beV (s.data.toList.take (i + 1)) : Nat) : Int) := by
   rw [Go.IntWalk.u64_in _ ⟨by omega, by omega⟩, List.take_succ_eq_append_getElem hi, jhi]
   omega
  simp (disch := omega) only [nqF, hg, e1, e2, e3, wrap1, dT, Bool.and_true, Bool.true_and] at tree
  exact .step _ _ _ tree ih'
theorem jsW : jac Tryz.prog 197 E_gNum := jag mix jsz (lp := jdE) (LO := jcF) ⟨Tryz.func197, by kernel_rfl, by kernel_rfl⟩ (by kernel_rfl) fun ivs res bxs h => by
 unfold E_gNum at h
 split at h
 ·rename_i s
  obtain ⟨hc, he⟩ := pick1 h
  cases he
  have hs := nqI hc
  refine ⟨jaF 5 (by kernel_rfl) (by kernel_rfl) (by kernel_rfl) ?_, (jnV s).trans ?_⟩
  ·intro ls e ls' hl
   unfold jcF at hl
   split at hl
   ·rename_i s x i
    obtain ⟨hc, he⟩ := pick1 hl
    cases he
    simp only [nqE, decide_eq_true_eq, beq_iff_eq] at hc
    obtain ⟨⟨k1, rfl⟩, rfl⟩ := hc
    exact joK s (by rw [← jab]; exact k1) 8 0 (by omega)
   ·cases hl
  ·have hx : s.extract 8 s.size = bs (s.data.toList.drop 8) := by
    rw [jbr, List.take_of_length_le (by rw [List.length_drop, ← jab]; exact Nat.le_refl _)]
   unfold gnT gnR
   by_cases h8 : 8 ≤ s.size
   ·by_cases hb : beV (s.data.toList.take 8) ≤ 2000000000000000000
    ·have hO : gnO s = true := by unfold gnO; rw [decide_eq_true h8, decide_eq_true hb]; rfl
     have w1 : IntKind.wrap .i64 ((beV (s.data.toList.take 8) : Nat) : Int) = ((beV (s.data.toList.take 8) : Nat) : Int) := wrapI (by omega) (by omega)
     have w2 : IntKind.wrap .i64 (((beV (s.data.toList.take 8) : Nat) : Int) - 1000000000000000000) = ((beV (s.data.toList.take 8) : Nat) : Int) - 1000000000000000000 := wrapI (by omega) (by omega)
     simp (disch := omega) only [dT, dF, w1, w2, hO, if_true, nqF, hx, Bool.and_true, Bool.true_and, beq_self_eq_true]
     rfl
    ·have hO : gnO s = false := by unfold gnO; rw [decide_eq_false hb, Bool.and_false]
     simp (disch := omega) only [dT, dF, hO, Bool.false_eq_true, if_false, Bool.and_true, Bool.true_and, beq_self_eq_true]
     rfl
   ·have hO : gnO s = false := by unfold gnO; rw [decide_eq_false h8, Bool.false_and]
    simp (disch := omega) only [dT, hO, Bool.false_eq_true, if_false]
    rfl
 ·cases h
theorem jtb : jac Tryz.prog 198 E_gStr := ⟨⟨_, Tryz.func198, by kernel_rfl, by kernel_rfl⟩, fun ivs res bxs h => by
 unfold E_gStr at h
 split at h
 ·rename_i s
  obtain ⟨hc, he⟩ := pick1 h
  cases he
  have hs := nqI hc
  cases hu : unesc s.data.toList with
  | some p =>
   have e : (IV.tup [cS (gsT s), cS (gsR s), cB (gsO s)]) = .tup [cS (bs ((unesc s.data.toList).getD ([], [])).1), cS (bs ((unesc s.data.toList).getD ([], [])).2), cB true] := by
    unfold gsT gsR gsO
    rw [hu]
    rfl
   rw [e]
   exact jiX.2 [cS s] _ [] (by unfold E_getString; dsimp only [pickA]; rw [hu, hc]; rfl)
  | none =>
   have eT : gsT s = ⟨#[]⟩ := by unfold gsT; rw [hu]; rfl
   have eR : gsR s = ⟨#[]⟩ := by unfold gsR; rw [hu]; rfl
   have eO : gsO s = false := by unfold gsO; rw [hu]; rfl
   rw [eT, eR, eO]
   intro w com vals bs' hI hnd hfresh hgl
   obtain ⟨hp, rfl⟩ := jfK (ps := [.str s]) hI
   obtain ⟨v, vs, rfl, hv1, hn⟩ := hp.of_cons
   rw [hn.of_nil]
   cases hv1
   refine (jgj s w hu hs).mono ?_
   rintro e w' ⟨rfl, hb⟩
   refine ⟨_, com, [], [], rfl, ⟨fun _ => Nat.le_refl _, fun b i hi => ?_⟩, ⟨hb.os, hb.tape, hb.output, hb.size, fun b hlt _ => hb.block b hlt⟩, fun b h => hfresh b (Nat.le_trans hb.size h), fun _ _ _ => rfl, ?_, .other _ _ _ _ _ _ rfl .nil, List.nodup_nil, fun b hb => by cases hb⟩
   ·have hlt : b < w.heap.size := by
     rcases Nat.lt_or_ge b w.heap.size with h | h
     ·exact h
     ·rw [hfresh b h] at hi; exact absurd hi (Nat.not_lt_zero _)
    exact jaU.cell_of_block (hb.block b hlt)
   ·exact .tup [.string ⟨#[]⟩, .string ⟨#[]⟩, .bool false] [cS ⟨#[]⟩, cS ⟨#[]⟩, cB false] [] (.cons (b1 := []) (.cv _ _ _ (.pv _ _ (.str _))) (.cons (b1 := []) (.cv _ _ _ (.pv _ _ (.str _))) (.cons (b1 := []) (.cv _ _ _ (.pv _ _ (.bool _))) .nil)))
 ·cases h⟩
theorem jsx : jah Tryz.prog kab3 := ⟨jsW, jtb, jgR, jmK, trivial⟩
theorem jfd : ∀ (l : List UInt8) (p : List UInt8 × List UInt8), unesc l = some p → p.1.length + p.2.length ≤ l.length
 | [], p, h => by cases h
 | [_], p, h => by cases h
 | c :: d :: r, p, h => by
  unfold unesc at h
  by_cases hc : c = 0
  ·rw [if_pos hc] at h
   by_cases hd : d = 0
   ·rw [if_pos hd] at h
    cases h
    simp only [List.length_nil, nqH]
    omega
   ·rw [if_neg hd] at h
    by_cases h2 : d = 255
    ·rw [if_pos h2] at h
     cases hr : unesc r with
     | none => rw [hr] at h; cases h
     | some q =>
      rw [hr] at h
      cases h
      have := jfd r q hr
      simp only [nqH]
      omega
    ·rw [if_neg h2] at h
     cases h
  ·rw [if_neg hc] at h
   cases hr : unesc (d :: r) with
   | none => rw [hr] at h; cases h
   | some q =>
    rw [hr] at h
    cases h
    have := jfd (d :: r) q hr
    simp only [nqH] at this ⊢
    omega
theorem jmA (n : Int) : (numTx n).size ≤ 20 := by
 unfold numTx
 by_cases h : numIn n = true
 ·rw [if_pos h, jbl]; exact jc0 (jhx h)
 ·rw [if_neg h]; exact Nat.zero_le _
theorem jqw (s : ByteArray) : (gnT s).size ≤ 20 := by
 unfold gnT
 split
 ·exact jmA _
 ·exact Nat.zero_le _
theorem jl9 (s : ByteArray) : (gnR s).size ≤ s.size := by
 unfold gnR
 split
 ·rw [jbl, List.length_drop, ← jab]; omega
 ·exact Nat.zero_le _
theorem jj9 (s : ByteArray) : (gsT s).size ≤ s.size ∧ (gsR s).size ≤ s.size := by
 unfold gsT gsR
 rw [jbl, jbl, jab s]
 cases h : unesc s.data.toList with
 | none => exact ⟨Nat.zero_le _, Nat.zero_le _⟩
 | some p =>
  have := jfd _ p h
  simp only [Option.getD_some]
  omega
theorem jnT {r : ByteArray} {p : ByteArray × ByteArray} (h : subG r = some p) (hr : r.size ≤ 2000) : p.1.size ≤ 2000 ∧ p.2.size ≤ 2000 := by
 have hx : (r.extract 1 r.size).size ≤ 2000 := by rw [ByteArray.size_extract]; omega
 have a1 := jqw (r.extract 1 r.size)
 have a2 := jl9 (r.extract 1 r.size)
 have a3 := jj9 (r.extract 1 r.size)
 unfold subG at h
 split at h
 ·split at h
  ·cases h; exact ⟨by dsimp only; omega, by dsimp only; omega⟩
  ·cases h
 ·split at h
  ·split at h
   ·cases h; exact ⟨by dsimp only; omega, by dsimp only; omega⟩
   ·cases h
  ·cases h
theorem jlj : ∀ (k : Nat) (xs : List ByteArray) (r : ByteArray), r.size ≤ 2000 → (∀ x ∈ xs, x.size ≤ 2000) → (∀ x ∈ (walkG k xs r).2, x.size ≤ 2000) ∧ (walkG k xs r).2.length ≤ xs.length + k
 | 0, xs, r, hr, hx => ⟨hx, Nat.le_refl _⟩
 | k + 1, xs, r, hr, hx => by
  unfold walkG
  split
  ·exact ⟨hx, by dsimp only; omega⟩
  ·cases hs : subG r with
   | none => exact ⟨hx, by dsimp only; omega⟩
   | some p =>
    obtain ⟨p1, p2⟩ := jnT hs hr
    obtain ⟨h1, h2⟩ := jlj k (xs ++ [p.1]) p.2 p2 fun x h => by
     rcases nqD.1 h with h | h
     ·exact hx x h
     ·rw [List.mem_singleton.1 h]; exact p1
    refine ⟨h1, ?_⟩
    rw [nqG, List.length_singleton] at h2
    dsimp only
    omega
theorem jiQ (s : ByteArray) : ∀ (m : Nat) (pre : List ByteArray) (r : ByteArray), m + pre.length = 5 → r.size ≤ 2000 → LoopsTo (rdB brC Tryz.prog kab3 jdX jdZ Tryz.f146 2 []) [aS s, aSs 4 pre, aS r]
  (if (walkG m pre r).1 = true then (.exit 0, [aS s, aX, aX, aSs 4 (walkG m pre r).2]) else (.ret, [aS s, aP .nils, aB false, aSs 4 (walkG m pre r).2])) := by
 intro m
 induction m with
 | zero =>
  intro pre r hm hr
  refine .done _ _ ((jiL s _ _ r).trans ?_)
  rw [dF (show ¬ ((pre.length : Nat) : Int) ≤ 4 by omega)]
  unfold walkG
  dsimp only
  rw [if_pos rfl]
  cases (r.toList == []) <;> rfl
 | succ m ih =>
  intro pre r hm hr
  have tree := jiL s pre.length (pre.map .str) r
  unfold walkG
  cases he : (r.toList == ([] : List UInt8)) with
  | true =>
   rw [he] at tree
   rw [if_pos rfl]
   dsimp only
   rw [if_pos rfl]
   exact .done _ _ tree
  | false =>
   rw [he] at tree
   rw [if_neg Bool.false_ne_true]
   have h0 : 0 < r.size := by
    rcases Nat.eq_zero_or_pos r.size with h | h
    ·have : r.toList = [] := List.length_eq_zero_iff.1 (by rw [ByteArray.toList_eq, ← jab]; exact h)
     rw [this] at he
     cases he
    ·exact h
   have hx : (r.extract 1 r.size).size ≤ 2000 := by rw [ByteArray.size_extract]; omega
   have b1 : ∀ x : PV, Nat.beq (List.length [x]) (1 * 1) = true := fun _ => rfl
   simp (disch := omega) only [dT, nqF, b1, Bool.and_true, Bool.true_and] at tree
   have key : ∀ p : ByteArray × ByteArray, p.2.size ≤ 2000 → LoopsTo (rdB brC Tryz.prog kab3 jdX jdZ Tryz.f146 2 []) [aS s, aM 4 1 9 (pre.length + 1) (pre.map .str ++ [.str p.1]), aS p.2]
     (if (walkG m (pre ++ [p.1]) p.2).1 = true then (.exit 0, [aS s, aX, aX, aSs 4 (walkG m (pre ++ [p.1]) p.2).2]) else (.ret, [aS s, aP .nils, aB false, aSs 4 (walkG m (pre ++ [p.1]) p.2).2])) := fun p hp => by
    have := ih (pre ++ [p.1]) p.2 (by rw [nqG, List.length_singleton]; omega) hp
    unfold aSs at this
    rw [nqG, List.length_singleton, List.map_append] at this
    exact this
   have a2 := jl9 (r.extract 1 r.size)
   have a3 := (jj9 (r.extract 1 r.size)).2
   unfold subG
   by_cases c1 : (((r.data.toList.getD 0 0).toNat : Nat) : Int) = 1
   ·rw [if_pos c1]
    have q1 : ((((r.data.toList.getD 0 0).toNat : Nat) : Int) == 1) = true := beq_iff_eq.2 c1
    rw [q1] at tree
    cases hO : gnO (r.extract 1 r.size) with
    | true =>
     rw [hO] at tree
     rw [if_pos rfl]
     have k := key (gnT (r.extract 1 r.size), gnR (r.extract 1 r.size)) (by dsimp only; omega)
     dsimp only at k
     exact .step _ _ _ tree k
    | false =>
     rw [hO] at tree
     rw [if_neg Bool.false_ne_true]
     dsimp only
     rw [if_neg Bool.false_ne_true]
     exact .done _ _ tree
   ·rw [if_neg c1]
    have q1 : ((((r.data.toList.getD 0 0).toNat : Nat) : Int) == 1) = false := beq_eq_false_iff_ne.2 c1
    rw [q1] at tree
    by_cases c2 : (((r.data.toList.getD 0 0).toNat : Nat) : Int) = 2
    ·rw [if_pos c2]
     have q2 : ((((r.data.toList.getD 0 0).toNat : Nat) : Int) == 2) = true := beq_iff_eq.2 c2
     rw [q2] at tree
     cases hO : gsO (r.extract 1 r.size) with
     | true =>
      rw [hO] at tree
      rw [if_pos rfl]
      have k := key (gsT (r.extract 1 r.size), gsR (r.extract 1 r.size)) (by dsimp only; omega)
      dsimp only at k
      exact .step _ _ _ tree k
     | false =>
      rw [hO] at tree
      rw [if_neg Bool.false_ne_true]
      dsimp only
      rw [if_neg Bool.false_ne_true]
      exact .done _ _ tree
    ·rw [if_neg c2]
     have q2 : ((((r.data.toList.getD 0 0).toNat : Nat) : Int) == 2) = false := beq_eq_false_iff_ne.2 c2
     rw [q2] at tree
     dsimp only
     rw [if_neg Bool.false_ne_true]
     exact .done _ _ tree
theorem jqZ (y : ByteArray) (r : List UInt8) : subG (bs (encS y.data.toList ++ r)) = some (y, bs r) := by
 have hx : ∀ (c : UInt8) (L : List UInt8), (bs (c :: L)).extract 1 (bs (c :: L)).size = bs L := fun c L => by
  rw [jbr, jaJ, List.drop_succ_cons, List.drop_zero, List.take_of_length_le (by rw [jbl, nqH]; omega)]
 have hg : ∀ (c : UInt8) (L : List UInt8), (bs (c :: L)).data.toList.getD 0 0 = c := fun c L => by rw [jaJ]; rfl
 by_cases hcn : jaD y.data.toList = true
 ·have e : encS y.data.toList ++ r = 1 :: (beK 8 (numOf y.data.toList + 1000000000000000000).toNat ++ r) := by
   unfold encS
   rw [if_pos hcn]
   rfl
  rw [e]
  have hr := jaS y.data.toList
  generalize hn : (numOf y.data.toList + 1000000000000000000).toNat = n
  have htk : (beK 8 n ++ r).take 8 = beK 8 n := by rw [List.take_left' (jbR 8 n)]
  have hdr : (beK 8 n ++ r).drop 8 = r := by rw [List.drop_left' (jbR 8 n)]
  have hv : beV (beK 8 n) = n := by
   have big : (256 : Nat) ^ 8 = 18446744073709551616 := by decide
   have h := jkd 8 n 0
   rw [big] at h
   refine Eq.trans (show beV (beK 8 n) = (beK 8 n).foldl (fun n c => n * 256 + c.toNat) 0 from rfl) ?_
   omega
  have hnn : ((n : Nat) : Int) - 1000000000000000000 = numOf y.data.toList := by omega
  have h8 : 8 ≤ (bs (beK 8 n ++ r)).size := by rw [jbl, nqG, jbR]; omega
  have hin : numIn (numOf y.data.toList) = true := jlH hr.1 hr.2
  have ht : bs (jax (numOf y.data.toList)) = y := by
   have := nqI hcn
   rw [this, ja7]
  have hO : gnO (bs (beK 8 n ++ r)) = true := by
   unfold gnO
   rw [decide_eq_true h8, jaJ, htk, hv, decide_eq_true (by omega)]
   rfl
  unfold subG
  rw [hg, hx, if_pos (show (((1 : UInt8).toNat : Nat) : Int) = 1 from rfl), if_pos hO]
  unfold gnT gnR numTx
  rw [if_pos hO, if_pos hO, jaJ, htk, hdr, hv, hnn, if_pos hin, ht]
 ·have e : encS y.data.toList ++ r = 2 :: (escS y.data.toList ++ 0 :: 0 :: r) := by
   unfold encS
   rw [if_neg hcn]
   simp
  rw [e]
  have hu := jfc y.data.toList r
  have hO : gsO (bs (escS y.data.toList ++ 0 :: 0 :: r)) = true := by unfold gsO; rw [jaJ, hu]; rfl
  unfold subG
  rw [hg, hx, if_neg (show ¬ (((2 : UInt8).toNat : Nat) : Int) = 1 by decide), if_pos (show (((2 : UInt8).toNat : Nat) : Int) = 2 from rfl), if_pos hO]
  unfold gsT gsR
  rw [jaJ, hu]
  show some (bs y.data.toList, bs r) = _
  rw [ja7]
theorem jiz : ∀ (ys pre : List ByteArray) (m : Nat), ys.length ≤ m → walkG m pre (bs (encL ys)) = (true, pre ++ ys)
 | [], pre, m, h => by
  cases m with
  | zero => unfold walkG; rw [List.append_nil]
  | succ m =>
   unfold walkG
   rw [jbt, if_pos (show (encL []).isEmpty = true from rfl), List.append_nil]
 | y :: ys, pre, 0, h => by simp at h
 | y :: ys, pre, m + 1, h => by
  rw [nqH] at h
  have ih := jiz ys (pre ++ [y]) m (by omega)
  obtain ⟨c, L, hL⟩ : ∃ c L, encL (y :: ys) = c :: L := jhd y.data.toList (encL ys)
  unfold walkG
  rw [jbt, hL, if_neg (by simp), ← hL]
  rw [show encL (y :: ys) = encS y.data.toList ++ encL ys from rfl, jqZ]
  dsimp only
  rw [ih, List.append_assoc]
  rfl
theorem jjG : jac Tryz.prog 146 E_GetSubs2 := jag mix jsx (lp := jdX) (LO := jdZ) ⟨Tryz.func146, by kernel_rfl, by kernel_rfl⟩ (by kernel_rfl) fun ivs res bxs h => by
 unfold E_GetSubs2 at h
 split at h
 ·rename_i s
  have LP : s.size ≤ 2000 → ∀ b ∈ jav (ja5 Tryz.f146), jbb Tryz.prog (tabL kab3) (OL jdX) Tryz.f146.ntmps (pbOf []) jdZ b := fun hs => by
   refine jaF 2 (by kernel_rfl) (by kernel_rfl) (by kernel_rfl) ?_
   intro ls e ls' hl
   replace hl : pickA (jeY ls) = some (e, ls') := hl
   unfold jeY at hl
   split at hl
   ·rename_i s x e cn cl r
    rcases pick2 hl with ⟨hc, he⟩ | ⟨hn, hc, he⟩
    ·cases he
     obtain ⟨hc, g5⟩ := andE hc
     obtain ⟨hc, g4⟩ := andE hc
     obtain ⟨hc, g3⟩ := andE hc
     obtain ⟨hc, g2⟩ := andE hc
     obtain ⟨g0, g1⟩ := andE hc
     rw [nqB g2, nqB g3, nqB g4, jbH g5]
     have := jiQ s 5 [] r rfl (nqI g0)
     rw [g1, if_pos rfl] at this
     exact this
    ·cases he
     obtain ⟨hc, g5⟩ := andE hc
     obtain ⟨hc, g4⟩ := andE hc
     obtain ⟨hc, g3⟩ := andE hc
     obtain ⟨g0, g2⟩ := andE hc
     have g1 : (walkG 5 [] r).1 = false := by
      cases hw : (walkG 5 [] r).1 with
      | false => rfl
      | true =>
       rw [g0, g2, g3, g4, g5, hw] at hn
       cases hn
     rw [nqB g2, nqB g3, nqB g4, jbH g5]
     have := jiQ s 5 [] r rfl (nqI g0)
     rw [g1, if_neg Bool.false_ne_true] at this
     exact this
   ·cases hl
  have tree := jpk s
  rcases pick2 h with ⟨hc, he⟩ | ⟨hn, hc, he⟩
  ·cases he
   obtain ⟨k0, k1⟩ := andE hc
   have hs := nqI k0
   obtain ⟨xs, hx, hB⟩ := jaj k1
   obtain ⟨hx4, hx24⟩ := jcb hB
   refine ⟨LP hs, ?_⟩
   have es : s = bs (encL xs) := by rw [← hx, ja7]
   have hw : walkG 5 [] s = (true, xs) := by rw [es, jiz xs [] 5 (by omega)]; rfl
   have hsh : shL xs := ⟨by omega, fun z hz => by have := hx24 z hz; omega⟩
   have e1 := jar hsh
   have e2 := jam xs
   have hp : putL xs = encL xs := by unfold putL; rw [if_pos hB]
   have hq : (ByteArray.toList (bs (encL xs)) == ByteArray.toList s) = true := by rw [← es]; simp
   rw [hw] at tree
   rw [hx, jc4]
   simp only [isL, k0, jbC, e1, jam, hB, hp, hq, Bool.and_true, Bool.true_and, Nat.beq_refl] at tree
   exact tree.trans rfl
  ·cases he
   have hs := nqI hc
   refine ⟨LP hs, ?_⟩
   have hne : holds (isEnc s.data.toList) = false := by
    cases hh : holds (isEnc s.data.toList) with
    | false => rfl
    | true => rw [hc, hh] at hn; cases hn
   cases hw1 : (walkG 5 [] s).1 with
   | false =>
    simp only [hw1, hc, jbC, Bool.and_true, Bool.true_and, Bool.and_false, Bool.false_and, Nat.beq_refl] at tree
    exact tree.trans rfl
   | true =>
    obtain ⟨z1, z2⟩ := jlj 5 [] s hs (fun _ h => by cases h)
    have hsh : shL (walkG 5 [] s).2 := ⟨by simp at z2; omega, fun z hz => by have := z1 z hz; omega⟩
    have e1 := jar hsh
    have e2 := jam (walkG 5 [] s).2
    rw [hw1] at tree
    simp only [isL, hc, jbC, e1, jam, Bool.and_true, Bool.true_and, Nat.beq_refl] at tree
    cases hB : subsB (walkG 5 [] s).2 with
    | false =>
     rw [hB] at tree
     exact tree.trans rfl
    | true =>
     have hp : putL (walkG 5 [] s).2 = encL (walkG 5 [] s).2 := by unfold putL; rw [if_pos hB]
     have hq : (ByteArray.toList (bs (encL (walkG 5 [] s).2)) == ByteArray.toList s) = false := by
      refine beq_eq_false_iff_ne.2 fun e => ?_
      have : holds (isEnc s.data.toList) = true := jad ⟨(walkG 5 [] s).2, by
       have := congrArg (fun l => l) e
       rw [jfn, ByteArray.toList_eq] at this
       exact this.symm, hB⟩
      rw [hne] at this
      cases this
     rw [hB, hp, hq] at tree
     exact tree.trans rfl
 ·cases h
theorem jtf : jac Tryz.prog 145 E_Cut2 := ⟨⟨_, Tryz.func145, by kernel_rfl, by kernel_rfl⟩, fun ivs res bxs h => by
 unfold E_Cut2 at h
 split at h
 ·rename_i s t
  obtain ⟨hc, he⟩ := pick1 h
  cases he
  have hc := nqI hc
  intro w com vals bs' hI hnd hfresh hgl
  obtain ⟨hp, rfl⟩ := jfK (ps := [.str s, .str t]) hI
  obtain ⟨v, vs, rfl, hv1, hn⟩ := hp.of_cons
  obtain ⟨v2, vs2, rfl, hv2, hn2⟩ := hn.of_cons
  rw [hn2.of_nil]
  cases hv1
  cases hv2
  obtain ⟨m, hm⟩ := jpF hgl
  refine (Tryz.strings_Cut s t m w (by omega) hm).mono ?_
  rintro e w' ⟨rfl, hd⟩
  have hb : Below w.heap.size w w' := by
   obtain ⟨k, rfl⟩ := hd
   exact jkr (Below.refl _ _) _
  refine ⟨_, com, [], [], rfl, ⟨fun _ => Nat.le_refl _, fun b i hi => ?_⟩, ⟨hb.os, hb.tape, hb.output, hb.size, fun b hlt _ => hb.block b hlt⟩, fun b h => hfresh b (Nat.le_trans hb.size h), fun _ _ _ => rfl, ?_, .other _ _ _ _ _ _ rfl (.other _ _ _ _ _ _ rfl .nil), List.nodup_nil, fun b hb => by cases hb⟩
  ·have hlt : b < w.heap.size := by
    rcases Nat.lt_or_ge b w.heap.size with h | h
    ·exact h
    ·rw [hfresh b h] at hi; exact absurd hi (Nat.not_lt_zero _)
   exact jaU.cell_of_block (hb.block b hlt)
  ·exact .tup [.string (bs (Lib.cut s.data.toList t.data.toList).1), .string (bs (Lib.cut s.data.toList t.data.toList).2.1), .bool (Lib.cut s.data.toList t.data.toList).2.2] [cS (bs (Lib.cut s.data.toList t.data.toList).1), cS (bs (Lib.cut s.data.toList t.data.toList).2.1), cB (Lib.cut s.data.toList t.data.toList).2.2] [] (.cons (b1 := []) (.cv _ _ _ (.pv _ _ (.str _))) (.cons (b1 := []) (.cv _ _ _ (.pv _ _ (.str _))) (.cons (b1 := []) (.cv _ _ _ (.pv _ _ (.bool _))) .nil)))
 ·cases h⟩
theorem joJ {N x : List UInt8} (hN : ∀ c ∈ N, c ≠ 1) : Lib.cut (N ++ 1 :: x) [1] = (N, x, true) := by
 have hi : Lib.index (N ++ 1 :: x) [1] = (N.length : Int) := by
  refine Lib.index_first (by rw [nqG]; omega) ?_ ?_
  ·rw [jfv, List.drop_left]
   rfl
  ·intro j hj
   rw [jfv, List.drop_append_of_le_length (by omega), nqK hj]
   have := hN N[j] (List.getElem_mem hj)
   show (some N[j] == some (1 : UInt8)) = false
   rw [beq_eq_false_iff_ne]
   exact fun h => this (by injection h)
 unfold Lib.cut
 rw [hi, if_pos (by omega), nqF, List.take_left, List.length_singleton]
 congr 2
 rw [show N ++ 1 :: x = (N ++ [1]) ++ x by simp, show N.length + 1 = (N ++ [1]).length by simp, List.drop_left]
theorem jsa (l : List UInt8) : (∃ N x, l = N ++ 1 :: x ∧ Lib.cut l [1] = (N, x, true)) ∨ Lib.cut l [1] = (l, [], false) := by
 by_cases h : (1 : UInt8) ∈ l
 ·obtain ⟨N, x, e, hN⟩ := List.eq_append_cons_of_mem h
  refine .inl ⟨N, x, e, ?_⟩
  rw [e]
  exact joJ fun c hc e => hN (e ▸ hc)
 ·refine .inr ?_
  have : Lib.index l [1] = -1 := Lib.index_none fun j hj => by
   rw [jfv]
   cases hd : l.drop j with
   | nil => rfl
   | cons a t =>
    have ha : a ∈ l := List.mem_of_mem_drop (i := j) (by rw [hd]; exact List.mem_cons_self ..)
    rw [List.head?_cons]
    exact beq_eq_false_iff_ne.2 fun e => h (by injection e with e; rw [← e]; exact ha)
  unfold Lib.cut
  rw [this, if_neg (by decide)]
theorem jdJ {s : ByteArray} {xs : List ByteArray} (h : jbD s xs = true) : nameB s = true ∧ subsB xs = true := by
 unfold jbD at h
 rw [nqE] at h
 exact h
theorem jlM {a s : ByteArray} {xs : List ByteArray} (h : a.data.toList = keyL s xs) (hp : jbD s xs = true) : Lib.cut a.data.toList [1] = (s.data.toList, encL xs, true) := by
 rw [h]
 exact js4 (ji4 (jdJ hp).1)
theorem jnL {a s : ByteArray} {xs : List ByteArray} (h : a.data.toList = keyL s xs) (hp : jbD s xs = true) : deKy a = (s, xs) := by
 have := @Classical.epsilon_spec _ (fun x : ByteArray × List ByteArray => a.data.toList = keyL x.1 x.2 ∧ jbD x.1 x.2 = true) ⟨(s, xs), h, hp⟩
 obtain ⟨h1, h2⟩ := this
 have h3 := (jlM h hp).symm.trans (jlM h1 h2)
 injection h3 with h4 h5
 injection h5 with h6 _
 exact Prod.ext (ByteArray.ext (Array.ext' h4)).symm (jlV h6).symm
theorem js9 : jah Tryz.prog kab4 := ⟨jtf, jjG, jg2, trivial⟩
theorem jp7 : jac Tryz.prog 74 E_KeyPl := jag mix js9 (lp := []) (LO := LO0) ⟨Tryz.func74, by kernel_rfl, by kernel_rfl⟩ (by kernel_rfl) fun ivs res bxs h => by
 unfold E_KeyPl at h
 split at h
 ·rename_i a
  refine ⟨jap (by kernel_rfl), ?_⟩
  have tree := jmS a
  have hs : a.size ≤ 2000 := by
   rcases pick2 h with ⟨hc, _⟩ | ⟨_, hc, _⟩
   ·exact nqI (andE hc).1
   ·exact nqI hc
  have hd := decide_eq_true hs
  rw [dT (show a.size ≤ 1000000 by omega)] at tree
  have hla : a.size = a.data.toList.length := jab a
  rcases jsa a.data.toList with ⟨N, x, ea, hcut⟩ | hcut
  ·have hlN : (bs N).size + (bs x).size + 1 = a.size := by rw [jbl, jbl, hla, ea, nqG, nqH]; omega
   rw [hcut] at tree
   dsimp only at tree
   rw [jaJ, dT (show (bs x).size ≤ 2000 by omega), dT (show (bs N).size ≤ 1000000 by omega)] at tree
   rcases pick2 h with ⟨hc, he⟩ | ⟨hn, hc, he⟩
   ·cases he
    obtain ⟨⟨s, xs⟩, h3, h4⟩ := jaj (andE hc).2
    have h3 : a.data.toList = keyL s xs := h3
    have h4 : jbD s xs = true := h4
    have h5 := hcut.symm.trans (jlM h3 h4)
    injection h5 with h5 h6
    injection h6 with h6 _
    obtain ⟨n1, n2⟩ := jdJ h4
    have hN : bs N = s := by rw [h5, ja7]
    rw [jad (show isEnc x from ⟨xs, h6, n2⟩), hN, n1, h6, jc4] at tree
    rw [jnL h3 h4]
    exact tree.trans rfl
   ·cases he
    have hk : ¬ isKy a := fun hk => by
     rw [hd, jad hk] at hn
     cases hn
    by_cases hE : isEnc x
    ·rw [jad hE] at tree
     obtain ⟨xs, hx, hB⟩ := hE
     have hNn : nameB (bs N) = false := by
      cases hNn : nameB (bs N) with
      | false => rfl
      | true => exact absurd ⟨(bs N, xs), by rw [ea, hx]; unfold keyL; rw [jaJ], by unfold jbD; rw [hNn, hB]; rfl⟩ hk
     rw [hNn] at tree
     exact tree.trans rfl
    ·rw [show holds (isEnc x) = false from @decide_eq_false _ (Classical.propDecidable _) hE] at tree
     exact tree.trans rfl
  ·rw [hcut] at tree
   dsimp only at tree
   rw [jaJ, dT (show (bs ([] : List UInt8)).size ≤ 2000 from Nat.zero_le _)] at tree
   rcases pick2 h with ⟨hc, he⟩ | ⟨hn, hc, he⟩
   ·obtain ⟨⟨s, xs⟩, h3, h4⟩ := jaj (andE hc).2
    have h3 : a.data.toList = keyL s xs := h3
    have h5 := hcut.symm.trans (jlM h3 h4)
    injection h5 with h5 h6
    injection h6 with h6 h7
    cases h7
   ·cases he
    by_cases hE : isEnc ([] : List UInt8)
    ·rw [jad hE] at tree
     exact tree.trans rfl
    ·rw [show holds (isEnc ([] : List UInt8)) = false from @decide_eq_false _ (Classical.propDecidable _) hE] at tree
     exact tree.trans rfl
 ·cases h
end
section
open Go.RowKit
def E_l02Sub : Entry := fun ivs => match ivs with | [.cv (.pv (.str s))] => [(true, cB (subB s), [])] | _ => []
def E_l02Name : Entry := fun ivs => match ivs with | [.cv (.pv (.str s))] => [(decide (s.size ≤ 1000000), cB (nameB s), [])] | _ => []
def E_l02Before : Entry := fun ivs => match ivs with | [.cv (.pv (.str a)), .cv (.pv (.str b))] => [(decide (a.size ≤ 1000000) && decide (b.size ≤ 1000000), cB (bef a b), [])] | _ => []
def sab0 : List (FuncId × Entry) := [(238, E_l02Sub), (204, E_l02Name), (239, E_l02Before)]
def jqE (br : Br) (s : ByteArray) := evB br Tryz.prog [] [] LO0 Tryz.f238 [cS s]
abbrev jcd : List (Nat × List Nat × List Nat) := [(4, [0, 3], [2])]
def jbK : LoopT := fun _ ls => match ls with
 | [(.pv p, none), (.pv (.int .i64 i), none)] => [(isL p && (i == 0) && (asL p).any (fun s => !subB s), .ret, [aB false]), (isL p && (i == 0), .exit 0, [aX])]
 | _ => []
def jom (br : Br) (xs : List ByteArray) (i : Int) := rdB br Tryz.prog sab0 jcd jbK Tryz.f205 4 [] [aP (pL xs), aI i]
def joC (br : Br) (xs : List ByteArray) := evB br Tryz.prog sab0 jcd jbK Tryz.f205 [cP (pL xs)]
def E_l02Subs : Entry := fun ivs => match ivs with | [.cv (.pv p)] => [(isL p, cB (subsB (asL p)), [])] | _ => []
abbrev jaZ : List (Nat × List Nat × List Nat) := [(2, [0, 1, 5], [0, 1, 4])]
def jb8 : List ByteArray → List ByteArray → Option Bool
 | a :: x, b :: y => if sEq a b = true then jb8 x y else some (bef a b)
 | _, _ => none
def jaM : LoopT := fun _ ls => match ls with
 | [(.pv p, none), (.pv q, none), (.pv (.int .i64 i), none)] =>
  [(isL p && isL q && (i == 0) && (jb8 (asL p) (asL q)).isSome, .ret, [aP p, aP q, aB ((jb8 (asL p) (asL q)).getD false)]), (isL p && isL q && (i == 0), .exit 0, [aP p, aP q, aX])]
 | _ => []
def jfe (br : Br) (xs ys : List ByteArray) (i : Int) := rdB br Tryz.prog sab0 jaZ jaM Tryz.f206 2 [] [aP (pL xs), aP (pL ys), aI i]
def jfb (br : Br) (xs ys : List ByteArray) := evB br Tryz.prog sab0 jaZ jaM Tryz.f206 [cP (pL xs), cP (pL ys)]
def E_l02SubsBefore : Entry := fun ivs => match ivs with | [.cv (.pv p), .cv (.pv q)] => [(isL p && isL q, cB (jdc (asL p) (asL q)), [])] | _ => []
abbrev jb9 : List (Nat × List Nat × List Nat) := [(4, [0, 1, 5], [4])]
def sameX (xs ys : List ByteArray) : Bool := holds (xs = ys)
def jbJ : LoopT := fun _ ls => match ls with
 | [(.pv p, none), (.pv q, none), (.pv (.int .i64 i), none)] =>
  [(isL p && isL q && (i == 0) && Nat.beq (asL p).length (asL q).length && !sameX (asL p) (asL q), .ret, [aB false]), (isL p && isL q && (i == 0) && Nat.beq (asL p).length (asL q).length, .exit 0, [aX])]
 | _ => []
def jpI (br : Br) (xs ys : List ByteArray) (i : Int) := rdB br Tryz.prog sab0 jb9 jbJ Tryz.f127 4 [] [aP (pL xs), aP (pL ys), aI i]
def joM (br : Br) (xs ys : List ByteArray) := evB br Tryz.prog sab0 jb9 jbJ Tryz.f127 [cP (pL xs), cP (pL ys)]
def E_l02Same : Entry := fun ivs => match ivs with | [.cv (.pv p), .cv (.pv q)] => [(isL p && isL q, cB (sameX (asL p) (asL q)), [])] | _ => []
def sab1 : List (FuncId × Entry) := (205, E_l02Subs) :: (206, E_l02SubsBefore) :: (127, E_l02Same) :: sab0
def jqK (br : Br) (xs : List ByteArray) := evB br Tryz.prog sab1 [] LO0 Tryz.f152 [cP (pL xs)]
def jqj (br : Br) (s : ByteArray) := evB br Tryz.prog sab1 [] LO0 Tryz.f151 [cS s]
def jjq (br : Br) (xs ys : List ByteArray) := evB br Tryz.prog sab1 [] LO0 Tryz.f153 [cP (pL xs), cP (pL ys)]
def jnf (br : Br) (xs ys : List ByteArray) := evB br Tryz.prog sab1 [] LO0 Tryz.f62 [cP (pL xs), cP (pL ys)]
def sab2 : List (FuncId × Entry) := (152, E_l02Subs) :: (151, E_l02Name) :: (153, E_l02SubsBefore) :: (62, E_l02Same) :: sab1
def jmy (br : Br) (s : ByteArray) (xs : List ByteArray) := evB br Tryz.prog sab2 [] LO0 Tryz.f81 [cS s, cP (pL xs)]
def E_l03Place : Entry := fun ivs => match ivs with | [.cv (.pv (.str s)), .cv (.pv p)] => [(decide (s.size ≤ 1000000) && isL p, cB (jbD s (asL p)), [])] | _ => []
end
section
theorem jen (xs : List ByteArray) (i : Int) : jom brC xs i =
 brC (decide (i < (↑(List.length xs) : Int)))
 (brC (decide (0 ≤ i) && decide (i < (↑(List.length xs) : Int)))
 (brC (Nat.blt 0 (List.length (List.drop (Int.toNat i * 1) (List.map PV.str xs))) && PV.isStr (List.headD (List.drop (Int.toNat i * 1) (List.map PV.str xs)) PV.nilp) && true)
 (brC (!subB (PV.asStr (List.headD (List.drop (Int.toNat i * 1) (List.map PV.str xs)) PV.nilp)))
 (some (.inr (.ret, [(.pv (.bool false), none)])))
 (some (.inl [(.pv (.sl (List.length xs) (List.map PV.str xs)), none), (.pv (.int .i64 (IntKind.wrap .i64 (i + 1))), none)])))
 none)
 none)
 (some (.inr (.exit 0, [(.bad, none)]))) := by kernel_rfl
theorem jj5 (s : ByteArray) : jqj brC s =
 brC (decide (ByteArray.size s ≤ 1000000))
 (some ((.cv (.pv (.bool (nameB s))), [])))
 none := by kernel_rfl
theorem je0 (xs : List ByteArray) (ys : List ByteArray) : jjq brC xs ys =
 brC (isL (PV.sl (List.length xs) (List.map PV.str xs)) && isL (PV.sl (List.length ys) (List.map PV.str ys)))
 (some ((.cv (.pv (.bool (jdc (asL (PV.sl (List.length xs) (List.map PV.str xs))) (asL (PV.sl (List.length ys) (List.map PV.str ys)))))), [])))
 none := by kernel_rfl
theorem jb3 (xs : List ByteArray) (ys : List ByteArray) (i : Int) : jfe brC xs ys i =
 brC (decide (i < (↑(List.length xs) : Int)))
 (brC (decide (i < (↑(List.length ys) : Int)))
 (brC (decide (0 ≤ i) && decide (i < (↑(List.length xs) : Int)))
 (brC (Nat.blt 0 (List.length (List.drop (Int.toNat i * 1) (List.map PV.str xs))) && PV.isStr (List.headD (List.drop (Int.toNat i * 1) (List.map PV.str xs)) PV.nilp) && true)
 (brC (decide (0 ≤ i) && decide (i < (↑(List.length ys) : Int)))
 (brC (Nat.blt 0 (List.length (List.drop (Int.toNat i * 1) (List.map PV.str ys))) && PV.isStr (List.headD (List.drop (Int.toNat i * 1) (List.map PV.str ys)) PV.nilp) && true)
 (brC (!ByteArray.toList (PV.asStr (List.headD (List.drop (Int.toNat i * 1) (List.map PV.str xs)) PV.nilp)) == ByteArray.toList (PV.asStr (List.headD (List.drop (Int.toNat i * 1) (List.map PV.str ys)) PV.nilp)))
 (brC (decide (0 ≤ i) && decide (i < (↑(List.length xs) : Int)))
 (brC (Nat.blt 0 (List.length (List.drop (Int.toNat i * 1) (List.map PV.str xs))) && PV.isStr (List.headD (List.drop (Int.toNat i * 1) (List.map PV.str xs)) PV.nilp) && true)
 (brC (decide (0 ≤ i) && decide (i < (↑(List.length ys) : Int)))
 (brC (Nat.blt 0 (List.length (List.drop (Int.toNat i * 1) (List.map PV.str ys))) && PV.isStr (List.headD (List.drop (Int.toNat i * 1) (List.map PV.str ys)) PV.nilp) && true)
 (brC (decide (ByteArray.size (PV.asStr (List.headD (List.drop (Int.toNat i * 1) (List.map PV.str xs)) PV.nilp)) ≤ 1000000) && decide (ByteArray.size (PV.asStr (List.headD (List.drop (Int.toNat i * 1) (List.map PV.str ys)) PV.nilp)) ≤ 1000000))
 (some (.inr (.ret, [(.pv (.sl (List.length xs) (List.map PV.str xs)), none), (.pv (.sl (List.length ys) (List.map PV.str ys)), none), (.pv (.bool (bef (PV.asStr (List.headD (List.drop (Int.toNat i * 1) (List.map PV.str xs)) PV.nilp)) (PV.asStr (List.headD (List.drop (Int.toNat i * 1) (List.map PV.str ys)) PV.nilp)))), none)])))
 none)
 none)
 none)
 none)
 none)
 (some (.inl [(.pv (.sl (List.length xs) (List.map PV.str xs)), none), (.pv (.sl (List.length ys) (List.map PV.str ys)), none), (.pv (.int .i64 (IntKind.wrap .i64 (i + 1))), none)])))
 none)
 none)
 none)
 none)
 (some (.inr (.exit 0, [(.pv (.sl (List.length xs) (List.map PV.str xs)), none), (.pv (.sl (List.length ys) (List.map PV.str ys)), none), (.bad, none)]))))
 (some (.inr (.exit 0, [(.pv (.sl (List.length xs) (List.map PV.str xs)), none), (.pv (.sl (List.length ys) (List.map PV.str ys)), none), (.bad, none)]))) := by kernel_rfl
theorem jiu (xs : List ByteArray) : joC brC xs =
 brC (decide ((↑(List.length xs) : Int) > 4))
 (some ((.cv (.pv (.bool false)), [])))
 (brC (isL (pL xs) && 0 == 0 && List.any (asL (pL xs)) fun s => !subB s)
 (some ((.cv (.pv (.bool false)), [])))
 (brC (isL (pL xs) && 0 == 0)
 (some ((.cv (.pv (.bool true)), [])))
 none)) := by kernel_rfl
theorem jhL (s : ByteArray) (xs : List ByteArray) : jmy brC s xs =
 brC (decide (ByteArray.size s ≤ 1000000))
 (brC (nameB s)
 (brC (isL (PV.sl (List.length xs) (List.map PV.str xs)))
 (some ((.cv (.pv (.bool (subsB (asL (PV.sl (List.length xs) (List.map PV.str xs)))))), [])))
 none)
 (some ((.cv (.pv (.bool false)), []))))
 none := by kernel_rfl
theorem jdK (xs : List ByteArray) (ys : List ByteArray) : jfb brC xs ys =
 brC (isL (pL xs) && isL (pL ys) && 0 == 0 && Option.isSome (jb8 (asL (pL xs)) (asL (pL ys))))
 (some ((.cv (.pv (.bool (Option.getD (jb8 (asL (pL xs)) (asL (pL ys))) false))), [])))
 (brC (isL (pL xs) && isL (pL ys) && 0 == 0)
 (some ((.cv (.pv (.bool (decide ((↑(List.length xs) : Int) < (↑(List.length ys) : Int))))), [])))
 none) := by kernel_rfl
theorem jjA (xs : List ByteArray) (ys : List ByteArray) : joM brC xs ys =
 brC ((↑(List.length xs) : Int) != (↑(List.length ys) : Int))
 (some ((.cv (.pv (.bool false)), [])))
 (brC (isL (pL xs) && isL (pL ys) && 0 == 0 && Nat.beq (List.length (asL (pL xs))) (List.length (asL (pL ys))) && !sameX (asL (pL xs)) (asL (pL ys)))
 (some ((.cv (.pv (.bool false)), [])))
 (brC (isL (pL xs) && isL (pL ys) && 0 == 0 && Nat.beq (List.length (asL (pL xs))) (List.length (asL (pL ys))))
 (some ((.cv (.pv (.bool true)), [])))
 none)) := by kernel_rfl
theorem jhJ (xs : List ByteArray) (ys : List ByteArray) : jnf brC xs ys =
 brC (isL (PV.sl (List.length xs) (List.map PV.str xs)) && isL (PV.sl (List.length ys) (List.map PV.str ys)))
 (some ((.cv (.pv (.bool (sameX (asL (PV.sl (List.length xs) (List.map PV.str xs))) (asL (PV.sl (List.length ys) (List.map PV.str ys)))))), [])))
 none := by kernel_rfl
theorem jkD (xs : List ByteArray) : jqK brC xs =
 brC (isL (PV.sl (List.length xs) (List.map PV.str xs)))
 (some ((.cv (.pv (.bool (subsB (asL (PV.sl (List.length xs) (List.map PV.str xs)))))), [])))
 none := by kernel_rfl
theorem jek (xs : List ByteArray) (ys : List ByteArray) (i : Int) : jpI brC xs ys i =
 brC (decide (i < (↑(List.length xs) : Int)))
 (brC (decide (0 ≤ i) && decide (i < (↑(List.length xs) : Int)))
 (brC (Nat.blt 0 (List.length (List.drop (Int.toNat i * 1) (List.map PV.str xs))) && PV.isStr (List.headD (List.drop (Int.toNat i * 1) (List.map PV.str xs)) PV.nilp) && true)
 (brC (decide (0 ≤ i) && decide (i < (↑(List.length ys) : Int)))
 (brC (Nat.blt 0 (List.length (List.drop (Int.toNat i * 1) (List.map PV.str ys))) && PV.isStr (List.headD (List.drop (Int.toNat i * 1) (List.map PV.str ys)) PV.nilp) && true)
 (brC (!ByteArray.toList (PV.asStr (List.headD (List.drop (Int.toNat i * 1) (List.map PV.str xs)) PV.nilp)) == ByteArray.toList (PV.asStr (List.headD (List.drop (Int.toNat i * 1) (List.map PV.str ys)) PV.nilp)))
 (some (.inr (.ret, [(.pv (.bool false), none)])))
 (some (.inl [(.pv (.sl (List.length xs) (List.map PV.str xs)), none), (.pv (.sl (List.length ys) (List.map PV.str ys)), none), (.pv (.int .i64 (IntKind.wrap .i64 (i + 1))), none)])))
 none)
 none)
 none)
 none)
 (some (.inr (.exit 0, [(.bad, none)]))) := by kernel_rfl
theorem jjF (s : ByteArray) : jqE brC s =
 brC (decide ((↑(ByteArray.size s) : Int) ≥ 1))
 (some ((.cv (.pv (.bool (decide ((↑(ByteArray.size s) : Int) ≤ 24)))), [])))
 (some ((.cv (.pv (.bool false)), []))) := by kernel_rfl
end
section
open Go.RowKit
theorem jnq : jac Tryz.prog 238 E_l02Sub := jag mix (tab := []) trivial (lp := []) (LO := LO0) ⟨Tryz.func238, by kernel_rfl, by kernel_rfl⟩ (by kernel_rfl) fun ivs res bxs h => by
 unfold E_l02Sub at h
 split at h
 ·rename_i s
  cases h
  refine ⟨jap (by kernel_rfl), (jjF s).trans ?_⟩
  unfold subB
  by_cases h1 : 1 ≤ s.size
  ·rw [dT (show (s.size : Int) ≥ 1 by omega), dT h1, show decide ((s.size : Int) ≤ 24) = decide (s.size ≤ 24) by rw [decide_eq_decide]; omega]
   rfl
  ·rw [dF (show ¬ (s.size : Int) ≥ 1 by omega), dF h1]
   rfl
 ·cases h
theorem jmL : jac Tryz.prog 204 E_l02Name := ⟨⟨_, Tryz.func204, by kernel_rfl, by kernel_rfl⟩, fun ivs res bxs h => by
 unfold E_l02Name at h
 split at h
 ·rename_i s
  obtain ⟨hc, he⟩ := pick1 h
  cases he
  have hs : s.size ≤ 1000000 := nqI hc
  refine jaQ (ps := [.str s]) (v := .bool (nameB s)) rfl fun w com vals hv _ => ?_
  obtain ⟨v, vs, rfl, hv, hn⟩ := hv.of_cons
  rw [hn.of_nil]
  cases hv
  refine (jkj s _ rfl w (by omega)).mono ?_
  rintro e w' ⟨rfl, rfl⟩
  exact ⟨rfl, Below.refl _ _⟩
 ·cases h⟩
theorem jjb : jac Tryz.prog 239 E_l02Before := ⟨⟨_, Tryz.func239, by kernel_rfl, by kernel_rfl⟩, fun ivs res bxs h => by
 unfold E_l02Before at h
 split at h
 ·rename_i a b
  obtain ⟨hc, he⟩ := pick1 h
  cases he
  rw [nqE, decide_eq_true_eq, decide_eq_true_eq] at hc
  refine jaQ (ps := [.str a, .str b]) (v := .bool (bef a b)) rfl fun w com vals hv _ => ?_
  obtain ⟨v, vs, rfl, hv1, hn⟩ := hv.of_cons
  obtain ⟨v2, vs2, rfl, hv2, hn2⟩ := hn.of_cons
  rw [hn2.of_nil]
  cases hv1
  cases hv2
  exact jid a b w (by omega) (by omega)
 ·cases h⟩
theorem jh6 : jah Tryz.prog sab0 := ⟨jnq, jmL, jjb, trivial⟩
theorem jiZ (xs : List ByteArray) (h : shL xs) : LoopsTo (rdB brC Tryz.prog sab0 jcd jbK Tryz.f205 4 []) [aP (pL xs), aI 0] (if (xs.any fun s => !subB s) = true then (.ret, [aB false]) else (.exit 0, [aX])) := by
 have := jee (f := rdB brC Tryz.prog sab0 jcd jbK Tryz.f205 4 []) xs (fun i (_ : Unit) => [aP (pL xs), aI i]) (fun x _ => if (!subB x) = true then .inr (.ret, [aB false]) else .inl ()) (fun _ => (.exit 0, [aX])) (fun _ _ => True) ?_ ?_ (b := ()) trivial
 ·rw [joe] at this
  exact this
 ·intro i hi _ _
  have hl := h.1
  have tree := jen xs i
  simp (disch := omega) only [dT, nqF, jat xs i hi, nqH, List.headD_cons, PV.isStr, PV.asStr, blt0, wrap1, Bool.and_true] at tree
  cases hb : subB xs[i] with
  | true =>
   rw [hb] at tree
   exact .inl ⟨(), rfl, trivial, tree⟩
  | false =>
   rw [hb] at tree
   exact .inr ⟨_, rfl, tree⟩
 ·intro _ _
  refine (jen xs xs.length).trans ?_
  rw [dF (by omega)]
  rfl
theorem jd4 : jac Tryz.prog 205 E_l02Subs := jag mix jh6 (lp := jcd) (LO := jbK) ⟨Tryz.func205, by kernel_rfl, by kernel_rfl⟩ (by kernel_rfl) fun ivs res bxs h => by
 unfold E_l02Subs at h
 split at h
 ·rename_i p
  obtain ⟨hc, he⟩ := pick1 h
  cases he
  obtain ⟨xs, rfl, hx⟩ := jas hc
  refine ⟨jaF 4 (by kernel_rfl) (by kernel_rfl) (by kernel_rfl) ?_, (jiu xs).trans ?_⟩
  ·intro ls e ls' hl
   unfold jbK at hl
   split at hl
   ·rename_i q i
    cases hg : (isL q && (i == 0)) with
    | false => rw [hg] at hl; simp only [pickA, Bool.false_and, cond_false] at hl; cases hl
    | true =>
     rw [hg, Bool.true_and] at hl
     simp only [nqE, beq_iff_eq] at hg
     obtain ⟨ys, rfl, hy⟩ := jas hg.1
     obtain rfl := hg.2
     simp only [jam] at hl
     have := jiZ ys hy
     cases ha : (ys.any fun s => !subB s) <;> rw [ha] at hl this <;> cases hl <;> exact this
   ·cases hl
  ·simp only [jar hx, jam, beq_self_eq_true, Bool.and_true, Bool.true_and]
   unfold subsB
   have e : (xs.all subB) = !(xs.any fun s => !subB s) := by rw [List.any_eq_not_all_not]; simp
   rw [e]
   by_cases h4 : xs.length ≤ 4
   ·rw [dF (show ¬ (xs.length : Int) > 4 by omega), dT h4]
    cases (xs.any fun s => !subB s) <;> rfl
   ·rw [dT (show (xs.length : Int) > 4 by omega), dF h4]
    rfl
 ·cases h
theorem jiA : ∀ xs ys : List ByteArray, ∀ (A B : AV × Option Ob), foldS (fun (z : ByteArray × ByteArray) (_ : Unit) => if sEq z.1 z.2 = true then .inl () else .inr ((Ex.ret, [A, B, aB (bef z.1 z.2)]) : Ex × LS)) (fun _ => (.exit 0, [A, B, aX])) (xs.zip ys) () =
  match jb8 xs ys with | some r => (.ret, [A, B, aB r]) | none => (.exit 0, [A, B, aX])
 | [], _, A, B => by rw [List.zip_nil_left]; rfl
 | _ :: _, [], A, B => by rw [List.zip_nil_right]; rfl
 | a :: x, b :: y, A, B => by
  rw [List.zip_cons_cons]
  unfold foldS jb8
  dsimp only
  cases hs : sEq a b with
  | true => rw [if_pos rfl, if_pos rfl]; exact jiA x y A B
  | false => rw [if_neg Bool.false_ne_true, if_neg Bool.false_ne_true]
theorem jfz : ∀ xs ys : List ByteArray, jdc xs ys = match jb8 xs ys with | some r => r | none => decide (xs.length < ys.length)
 | [], [] => rfl
 | _ :: _, [] => rfl
 | [], _ :: _ => rfl
 | a :: x, b :: y => by
  unfold jdc jb8
  cases hs : sEq a b with
  | true =>
   rw [if_pos rfl, if_pos rfl, jfz x y]
   cases jb8 x y with
   | some r => rfl
   | none =>
    show decide (x.length < y.length) = decide (x.length + 1 < y.length + 1)
    rw [decide_eq_decide]; omega
  | false => rw [if_neg Bool.false_ne_true, if_neg Bool.false_ne_true]
theorem jdw (xs ys : List ByteArray) (h : shL xs) (k : shL ys) : LoopsTo (rdB brC Tryz.prog sab0 jaZ jaM Tryz.f206 2 []) [aP (pL xs), aP (pL ys), aI 0]
  (match jb8 xs ys with | some r => (.ret, [aP (pL xs), aP (pL ys), aB r]) | none => (.exit 0, [aP (pL xs), aP (pL ys), aX])) := by
 have := jee (f := rdB brC Tryz.prog sab0 jaZ jaM Tryz.f206 2 []) (xs.zip ys) (fun i (_ : Unit) => [aP (pL xs), aP (pL ys), aI i])
  (fun z _ => if sEq z.1 z.2 = true then .inl () else .inr (.ret, [aP (pL xs), aP (pL ys), aB (bef z.1 z.2)])) (fun _ => (.exit 0, [aP (pL xs), aP (pL ys), aX])) (fun _ _ => True) ?_ ?_ (b := ()) trivial
 ·rw [jiA] at this
  exact this
 ·intro i hi _ _
  have hl := h.1
  have hkl := k.1
  rw [List.length_zip] at hi
  have hix : i < xs.length := by omega
  have hiy : i < ys.length := by omega
  have s1 := jrv h hix
  have s2 := jrv k hiy
  have tree := jb3 xs ys i
  simp (disch := omega) only [dT, nqF, jat xs i hix, jat ys i hiy, nqH, List.headD_cons, PV.isStr, PV.asStr, blt0, wrap1, Bool.and_true] at tree
  rw [List.getElem_zip]
  cases hb : sEq xs[i] ys[i] with
  | true =>
   have hb' : (ByteArray.toList xs[i] == ByteArray.toList ys[i]) = true := hb
   rw [hb'] at tree
   exact .inl ⟨(), rfl, trivial, tree⟩
  | false =>
   have hb' : (ByteArray.toList xs[i] == ByteArray.toList ys[i]) = false := hb
   rw [hb'] at tree
   exact .inr ⟨_, rfl, tree⟩
 ·intro _ _
  refine (jb3 xs ys (xs.zip ys).length).trans ?_
  rw [List.length_zip]
  by_cases hle : xs.length ≤ ys.length
  ·rw [Nat.min_eq_left hle, dF (by omega)]
   rfl
  ·rw [Nat.min_eq_right (by omega), dF (show ¬ (ys.length : Int) < (ys.length : Int) by omega), dT (show (ys.length : Int) < (xs.length : Int) by omega)]
   rfl
theorem jeI : jac Tryz.prog 206 E_l02SubsBefore := jag mix jh6 (lp := jaZ) (LO := jaM) ⟨Tryz.func206, by kernel_rfl, by kernel_rfl⟩ (by kernel_rfl) fun ivs res bxs h => by
 unfold E_l02SubsBefore at h
 split at h
 ·rename_i p q
  obtain ⟨hc, he⟩ := pick1 h
  cases he
  rw [nqE] at hc
  obtain ⟨xs, rfl, hx⟩ := jas hc.1
  obtain ⟨ys, rfl, hy⟩ := jas hc.2
  refine ⟨jaF 2 (by kernel_rfl) (by kernel_rfl) (by kernel_rfl) ?_, (jdK xs ys).trans ?_⟩
  ·intro ls e ls' hl
   unfold jaM at hl
   split at hl
   ·rename_i p q i
    cases hg : (isL p && isL q && (i == 0)) with
    | false => rw [hg] at hl; simp only [pickA, Bool.false_and, cond_false] at hl; cases hl
    | true =>
     rw [hg, Bool.true_and] at hl
     simp only [nqE, beq_iff_eq] at hg
     obtain ⟨us, rfl, hu⟩ := jas hg.1.1
     obtain ⟨vs, rfl, hv⟩ := jas hg.1.2
     obtain rfl := hg.2
     simp only [jam] at hl
     have := jdw us vs hu hv
     cases ha : jb8 us vs <;> rw [ha] at hl this <;> cases hl <;> exact this
   ·cases hl
  ·simp only [jar hx, jar hy, jam, beq_self_eq_true, Bool.and_true, Bool.true_and, jfz xs ys]
   cases jb8 xs ys with
   | some r => rfl
   | none =>
    have : decide ((xs.length : Int) < (ys.length : Int)) = decide (xs.length < ys.length) := by rw [decide_eq_decide]; omega
    rw [this]
    rfl
 ·cases h
theorem jir : ∀ xs ys : List ByteArray, xs.length = ys.length → foldS (fun (z : ByteArray × ByteArray) (_ : Unit) => if sEq z.1 z.2 = true then .inl () else .inr ((Ex.ret, [aB false]) : Ex × LS)) (fun _ => (.exit 0, [aX])) (xs.zip ys) () =
  if sameX xs ys = true then (.exit 0, [aX]) else (.ret, [aB false])
 | [], [], _ => by unfold sameX; rw [if_pos (jad rfl)]; rfl
 | [], _ :: _, h => by cases h
 | _ :: _, [], h => by cases h
 | a :: x, b :: y, h => by
  rw [List.zip_cons_cons]
  unfold foldS
  dsimp only
  have ih := jir x y (by simpa using h)
  unfold sameX at ih ⊢
  cases hs : sEq a b with
  | true =>
   rw [if_pos rfl]
   dsimp only
   rw [ih]
   obtain rfl := jeh.1 hs
   by_cases hxy : x = y
   ·rw [if_pos (jad hxy), if_pos (jad (by rw [hxy]))]
   ·rw [if_neg (fun e => hxy (jaj e)), if_neg (fun e => hxy (by have := jaj e; injection this))]
  | false =>
   rw [if_neg Bool.false_ne_true]
   rw [if_neg (fun e => jn0.1 hs (by have := jaj e; injection this))]
theorem jjd (xs ys : List ByteArray) (h : shL xs) (k : shL ys) (hlen : xs.length = ys.length) : LoopsTo (rdB brC Tryz.prog sab0 jb9 jbJ Tryz.f127 4 []) [aP (pL xs), aP (pL ys), aI 0]
  (if sameX xs ys = true then (.exit 0, [aX]) else (.ret, [aB false])) := by
 have := jee (f := rdB brC Tryz.prog sab0 jb9 jbJ Tryz.f127 4 []) (xs.zip ys) (fun i (_ : Unit) => [aP (pL xs), aP (pL ys), aI i])
  (fun z _ => if sEq z.1 z.2 = true then .inl () else .inr (.ret, [aB false])) (fun _ => (.exit 0, [aX])) (fun _ _ => True) ?_ ?_ (b := ()) trivial
 ·rw [jir _ _ hlen] at this
  exact this
 ·intro i hi _ _
  have hl := h.1
  rw [List.length_zip] at hi
  have hix : i < xs.length := by omega
  have hiy : i < ys.length := by omega
  have tree := jek xs ys i
  simp (disch := omega) only [dT, nqF, jat xs i hix, jat ys i hiy, nqH, List.headD_cons, PV.isStr, PV.asStr, blt0, wrap1, Bool.and_true] at tree
  rw [List.getElem_zip]
  cases hb : sEq xs[i] ys[i] with
  | true =>
   have hb' : (ByteArray.toList xs[i] == ByteArray.toList ys[i]) = true := hb
   rw [hb'] at tree
   exact .inl ⟨(), rfl, trivial, tree⟩
  | false =>
   have hb' : (ByteArray.toList xs[i] == ByteArray.toList ys[i]) = false := hb
   rw [hb'] at tree
   exact .inr ⟨_, rfl, tree⟩
 ·intro _ _
  refine (jek xs ys (xs.zip ys).length).trans ?_
  rw [List.length_zip, ← hlen, Nat.min_self, dF (by omega)]
  rfl
theorem jmO : jac Tryz.prog 127 E_l02Same := jag mix jh6 (lp := jb9) (LO := jbJ) ⟨Tryz.func127, by kernel_rfl, by kernel_rfl⟩ (by kernel_rfl) fun ivs res bxs h => by
 unfold E_l02Same at h
 split at h
 ·rename_i p q
  obtain ⟨hc, he⟩ := pick1 h
  cases he
  rw [nqE] at hc
  obtain ⟨xs, rfl, hx⟩ := jas hc.1
  obtain ⟨ys, rfl, hy⟩ := jas hc.2
  refine ⟨jaF 4 (by kernel_rfl) (by kernel_rfl) (by kernel_rfl) ?_, (jjA xs ys).trans ?_⟩
  ·intro ls e ls' hl
   unfold jbJ at hl
   split at hl
   ·rename_i p q i
    cases hg : (isL p && isL q && (i == 0)) with
    | false => rw [hg] at hl; simp only [pickA, Bool.false_and, cond_false] at hl; cases hl
    | true =>
     rw [hg, Bool.true_and] at hl
     simp only [nqE, beq_iff_eq] at hg
     obtain ⟨us, rfl, hu⟩ := jas hg.1.1
     obtain ⟨vs, rfl, hv⟩ := jas hg.1.2
     obtain rfl := hg.2
     simp only [jam] at hl
     cases hlen : Nat.beq us.length vs.length with
     | false => rw [hlen] at hl; simp only [pickA, Bool.false_and, cond_false] at hl; cases hl
     | true =>
      rw [hlen, Bool.true_and] at hl
      have := jjd us vs hu hv (nqB hlen)
      cases ha : sameX us vs <;> rw [ha] at hl this <;> cases hl <;> exact this
   ·cases hl
  ·simp only [jar hx, jar hy, jam, beq_self_eq_true, Bool.and_true, Bool.true_and]
   by_cases hlen : xs.length = ys.length
   ·have e1 : ((xs.length : Int) != (ys.length : Int)) = false := by simp [hlen]
    have e2 : Nat.beq xs.length ys.length = true := by rw [hlen]; exact Nat.beq_refl _
    rw [e1, e2]
    cases sameX xs ys <;> rfl
   ·have e1 : ((xs.length : Int) != (ys.length : Int)) = true := by simp; omega
    have e3 : sameX xs ys = false := by
     cases hs : sameX xs ys with
     | false => rfl
     | true => exact absurd (by rw [jaj hs]) hlen
    rw [e1, e3]
    rfl
 ·cases h
theorem jf6 : jah Tryz.prog sab1 := ⟨jd4, jeI, jmO, jh6⟩
theorem jnB : jac Tryz.prog 152 E_l02Subs := jag mix jf6 (lp := []) (LO := LO0) ⟨Tryz.func152, by kernel_rfl, by kernel_rfl⟩ (by kernel_rfl) fun ivs res bxs h => by
 unfold E_l02Subs at h
 split at h
 ·rename_i p
  obtain ⟨hc, he⟩ := pick1 h
  cases he
  obtain ⟨xs, rfl, hx⟩ := jas hc
  refine ⟨jap (by kernel_rfl), (jkD xs).trans ?_⟩
  simp only [jar hx, jam]
  rfl
 ·cases h
theorem jmu : jac Tryz.prog 151 E_l02Name := jag mix jf6 (lp := []) (LO := LO0) ⟨Tryz.func151, by kernel_rfl, by kernel_rfl⟩ (by kernel_rfl) fun ivs res bxs h => by
 unfold E_l02Name at h
 split at h
 ·rename_i s
  obtain ⟨hc, he⟩ := pick1 h
  cases he
  refine ⟨jap (by kernel_rfl), (jj5 s).trans ?_⟩
  rw [hc]
  rfl
 ·cases h
theorem jgg : jac Tryz.prog 153 E_l02SubsBefore := jag mix jf6 (lp := []) (LO := LO0) ⟨Tryz.func153, by kernel_rfl, by kernel_rfl⟩ (by kernel_rfl) fun ivs res bxs h => by
 unfold E_l02SubsBefore at h
 split at h
 ·rename_i p q
  obtain ⟨hc, he⟩ := pick1 h
  cases he
  rw [nqE] at hc
  obtain ⟨xs, rfl, hx⟩ := jas hc.1
  obtain ⟨ys, rfl, hy⟩ := jas hc.2
  refine ⟨jap (by kernel_rfl), (je0 xs ys).trans ?_⟩
  simp only [jar hx, jar hy, jam]
  rfl
 ·cases h
theorem jin : jac Tryz.prog 62 E_l02Same := jag mix jf6 (lp := []) (LO := LO0) ⟨Tryz.func62, by kernel_rfl, by kernel_rfl⟩ (by kernel_rfl) fun ivs res bxs h => by
 unfold E_l02Same at h
 split at h
 ·rename_i p q
  obtain ⟨hc, he⟩ := pick1 h
  cases he
  rw [nqE] at hc
  obtain ⟨xs, rfl, hx⟩ := jas hc.1
  obtain ⟨ys, rfl, hy⟩ := jas hc.2
  refine ⟨jap (by kernel_rfl), (jhJ xs ys).trans ?_⟩
  simp only [jar hx, jar hy, jam]
  rfl
 ·cases h
theorem js5 : jah Tryz.prog sab2 := ⟨jnB, jmu, jgg, jin, jf6⟩
theorem jj8 : jac Tryz.prog 81 E_l03Place := jag mix js5 (lp := []) (LO := LO0) ⟨Tryz.func81, by kernel_rfl, by kernel_rfl⟩ (by kernel_rfl) fun ivs res bxs h => by
 unfold E_l03Place at h
 split at h
 ·rename_i s p
  obtain ⟨hc, he⟩ := pick1 h
  cases he
  rw [nqE] at hc
  obtain ⟨xs, rfl, hx⟩ := jas hc.2
  refine ⟨jap (by kernel_rfl), (jhL s xs).trans ?_⟩
  simp only [jar hx, jam, hc.1]
  unfold jbD
  cases nameB s <;> rfl
 ·cases h
end
section
open Go.RowKit
def E_l01Canon : Entry := fun ivs => match ivs with
 | [.cv (.pv (.str s))] => [(decide (s.size ≤ 1000000), cB (jaD s.data.toList), [])]
 | _ => []
def E_l01Of : Entry := fun ivs => match ivs with
 | [.cv (.pv (.str s))] => [(decide (s.size ≤ 1000000), cI (numOf s.data.toList), [])]
 | _ => []
def hidL (l : List UInt8) : List UInt8 := Classical.choose (⟨l, rfl⟩ : ∃ x, x = l)
theorem jg7 (l : List UInt8) : hidL l = l := Classical.choose_spec (⟨l, rfl⟩ : ∃ x, x = l)
def keyH (n : Nat) : List UInt8 := hidL (1 :: beK 8 n)
def kbb0 : List (FuncId × Entry) := (259, E_l01Canon) :: [(260, E_l01Of)]
abbrev jgp : List (Nat × List Nat × List Nat) := [(6, [0, 3, 4, 5], [0, 3]), (12, [0, 3, 6], [0, 3])]
def jic (ls : LS) : List (Bool × Ex × LS) := match ls with
 | [(.pv (.str s), none), (.own x, some (.lst 1 e c l false)), (.pv (.int .i64 n), none), (.pv (.int .i64 k), none)] =>
  [(decide (0 ≤ n) && holds (n ≤ 2000000000000000000) && Nat.beq x 12288 && Nat.beq e 5 && Nat.beq c 1 && holds (l = pvB [1]) && (k == 7), .exit 0, [aS s, oB 3 (pvB (keyH n.toNat))])]
 | _ => []
def je2 (ls : LS) : List (Bool × Ex × LS) := match ls with
 | [(.pv (.str s), none), (.own x, some (.lst 1 e c l false)), (.pv (.int .i64 i), none)] =>
  [(decide (s.size ≤ 1000000) && Nat.beq x 12288 && Nat.beq e 5 && Nat.beq c 1 && holds (l = pvB [2]) && (i == 0), .exit 2, [aS s, oB 3 (pvB (hidL (2 :: escS s.data.toList)))])]
 | _ => []
def jgz : LoopT := fun k ls => bif Nat.beq k 6 then jic ls else bif Nat.beq k 12 then je2 ls else []
def jui (br : Br) (s : ByteArray) (l : List UInt8) (n k : Int) := rdB br Tryz.prog kbb0 jgp jgz Tryz.f240 6 [] [aS s, oB 3 (pvB l), aI n, aI k]
def jtG (br : Br) (s : ByteArray) (l : List UInt8) (i : Int) := rdB br Tryz.prog kbb0 jgp jgz Tryz.f240 12 [] [aS s, oB 3 (pvB l), aI i]
def q_key (br : Br) (s : ByteArray) := evB br Tryz.prog kbb0 jgp jgz Tryz.f240 [cS s]
def E_key : Entry := fun ivs => match ivs with
 | [.cv (.pv (.str s))] => [(decide (s.size ≤ 1000000), cS (bs (encS s.data.toList)), [])]
 | _ => []
def kbb1 : List (FuncId × Entry) := [(240, E_key)]
abbrev jmc : List (Nat × List Nat × List Nat) := [(3, [0, 3, 4], [0, 3])]
def jhq (ls : LS) : List (Bool × Ex × LS) := match ls with
 | [(.pv p, none), (.pv (.str t), none), (.pv (.int .i64 i), none)] =>
  [(isL p && subsB (asL p) && Nat.beq t.size 0 && (i == 0), .exit 0, [aP p, aS (bs (encL (asL p)))])]
 | _ => []
def jl6 : LoopT := fun k ls => bif Nat.beq k 3 then jhq ls else []
def r_put (br : Br) (xs : List ByteArray) (t : ByteArray) (i : Int) := rdB br Tryz.prog kbb1 jmc jl6 Tryz.f207 3 [] [aP (pL xs), aS t, aI i]
def q_put (br : Br) (xs : List ByteArray) := evB br Tryz.prog kbb1 jmc jl6 Tryz.f207 [cP (pL xs)]
def E_put : Entry := fun ivs => match ivs with
 | [.cv (.pv p)] => [(isL p && subsB (asL p), cS (bs (encL (asL p))), [])]
 | _ => []
def kbb2 : List (FuncId × Entry) := (207, E_put) :: [(205, E_l02Subs)]
def jm9 (br : Br) (xs : List ByteArray) := evB br Tryz.prog kbb2 [] LO0 Tryz.f154 [cP (pL xs)]
def E_SPutSubs : Entry := fun ivs => match ivs with
 | [.cv (.pv p)] => [(isL p, cS (bs (putL (asL p))), [])]
 | _ => []
abbrev jdR : List (Nat × List Nat × List Nat) := [(3, [0, 3, 4], [0, 3])]
def beW (l : List UInt8) : Int := IntKind.wrap .i64 ((beV l : Nat) : Int)
def jdi (ls : LS) : List (Bool × Ex × LS) := match ls with
 | [(.pv (.str s), none), (.pv (.int .i64 n), none), (.pv (.int .i64 i), none)] =>
  [(decide (s.size = 8) && (n == 0) && (i == 0), .exit 0, [aS s, aI (beW s.data.toList)])]
 | _ => []
def jdy : LoopT := fun k ls => bif Nat.beq k 3 then jdi ls else []
def jqO (br : Br) (s : ByteArray) (n i : Int) := rdB br Tryz.prog [] jdR jdy Tryz.f242 3 [] [aS s, aI n, aI i]
def jqq (br : Br) (s : ByteArray) := evB br Tryz.prog [] jdR jdy Tryz.f242 [cS s]
def E_l02Num : Entry := fun ivs => match ivs with
 | [.cv (.pv (.str s))] => [(decide (s.size = 8), cI (beW s.data.toList), [])]
 | _ => []
def kbb3 : List (FuncId × Entry) := (242, E_l02Num) :: (59, E_within) :: [(243, E_l01Text)]
def un2 : List UInt8 → Bool
 | [] => false
 | [_] => false
 | c :: d :: r => if c = 0 then (if d = 0 then false else if d = 255 then un2 r else true) else un2 (d :: r)
abbrev lp_tk : List (Nat × List Nat × List Nat) := [(10, [0, 6, 7], [0, 2, 3, 4])]
def jhB (ls : LS) : List (Bool × Ex × LS) := match ls with
 | [(.pv (.str s), none), (.own x, some (.lst 1 e c l false)), (.pv (.int .i64 i), none)] =>
  [(decide (s.size ≤ 2000) && Nat.beq x 24576 && Nat.beq e 5 && Nat.beq c 0 && nilB l && (i == 1) && gsO (bs (s.data.toList.drop 1)), .ret, [aS s, aS (gsT (bs (s.data.toList.drop 1))), aS (gsR (bs (s.data.toList.drop 1))), aB true]),
   (decide (s.size ≤ 2000) && Nat.beq x 24576 && Nat.beq e 5 && Nat.beq c 0 && nilB l && (i == 1) && un2 (s.data.toList.drop 1), .ret, [aS s, aS ⟨#[]⟩, aS ⟨#[]⟩, aB false]),
   (decide (s.size ≤ 2000) && Nat.beq x 24576 && Nat.beq e 5 && Nat.beq c 0 && nilB l && (i == 1), .exit 0, [aS s, aX, aX, aX])]
 | _ => []
def LO_tk : LoopT := fun k ls => bif Nat.beq k 10 then jhB ls else []
def r_tk (br : Br) (s : ByteArray) (l : List UInt8) (i : Int) := rdB br Tryz.prog kbb3 lp_tk LO_tk Tryz.f220 10 [] [aS s, oB 6 (pvB l), aI i]
def q_tk (br : Br) (s : ByteArray) := evB br Tryz.prog kbb3 lp_tk LO_tk Tryz.f220 [cS s]
def sub2 (s : ByteArray) : Option (ByteArray × ByteArray) :=
 if (((s.data.toList.getD 0 0).toNat : Int) = 1 ∧ 9 ≤ s.size) then (if 1 ≤ beW ((s.data.toList.drop 1).take 8) ∧ beW ((s.data.toList.drop 1).take 8) ≤ 1999999999999999999 then some (bs (jax (beW ((s.data.toList.drop 1).take 8) - 1000000000000000000)), bs (s.data.toList.drop 9)) else none)
 else if ((s.data.toList.getD 0 0).toNat : Int) = 2 then (if gsO (bs (s.data.toList.drop 1)) = true then some (gsT (bs (s.data.toList.drop 1)), gsR (bs (s.data.toList.drop 1))) else none) else none
def tkO (s : ByteArray) : Bool := (sub2 s).isSome
def tkT (s : ByteArray) : ByteArray := ((sub2 s).getD (⟨#[]⟩, ⟨#[]⟩)).1
def tkL (s : ByteArray) : ByteArray := ((sub2 s).getD (⟨#[]⟩, ⟨#[]⟩)).2
def E_tk : Entry := fun ivs => match ivs with
 | [.cv (.pv (.str s))] => [(decide (0 < s.size) && decide (s.size ≤ 2000), .tup [cS (tkT s), cS (tkL s), cB (tkO s)], [])]
 | _ => []
def kbb4 : List (FuncId × Entry) := (220, E_tk) :: kbb2
def walkS : Nat → List ByteArray → ByteArray → Bool × List ByteArray × ByteArray
 | 0, xs, r => (true, xs, r)
 | k + 1, xs, r => if (r.toList == []) = true then (true, xs, r) else match sub2 r with | none => (false, xs, r) | some p => walkS k (xs ++ [p.1]) p.2
abbrev jfl : List (Nat × List Nat × List Nat) := [(3, [0, 4, 5], [0, 2, 3, 4, 5])]
abbrev aLs (slot : Nat) (l : List ByteArray) : AV × Option Ob := aL slot 1 9 l.length (l.map .str)
def jf7 (ls : LS) : List (Bool × Ex × LS) := match ls with
 | [(.pv (.str s), none), (.own x, some (.lst 1 e cn cl false)), (.pv (.str r), none)] =>
  [(decide (r.size ≤ 2000) && (walkS 5 [] r).1 && Nat.beq e 9 && Nat.beq x 16384 && Nat.beq cn 0 && nilB cl, .exit 0, [aS s, aX, aX, aLs 4 (walkS 5 [] r).2.1, aS (walkS 5 [] r).2.2]),
   (decide (r.size ≤ 2000) && Nat.beq e 9 && Nat.beq x 16384 && Nat.beq cn 0 && nilB cl, .ret, [aS s, aLs 2 [], aB false, aLs 4 (walkS 5 [] r).2.1, aS (walkS 5 [] r).2.2])]
 | _ => []
def jfW : LoopT := fun k ls => bif Nat.beq k 3 then jf7 ls else []
def jtW (br : Br) (s : ByteArray) (cn : Nat) (cl : List PV) (r : ByteArray) := rdB br Tryz.prog kbb4 jfl jfW Tryz.f182 3 [] [aS s, aL 4 1 9 cn cl, aS r]
def juq (br : Br) (s : ByteArray) := evB br Tryz.prog kbb4 jfl jfW Tryz.f182 [cS s]
def E_sget : Entry := fun ivs => match ivs with
 | [.cv (.pv (.str s))] => [(decide (s.size ≤ 2000) && holds (isEnc s.data.toList), .tup [cP (pL (decL s.data.toList)), cB true], []), (decide (s.size ≤ 2000), .tup [cP (pL []), cB false], [])]
 | _ => []
def kbb5 : List (FuncId × Entry) := (81, E_l03Place) :: (154, E_SPutSubs) :: [(182, E_sget)]
def jmo (br : Br) (xs : List ByteArray) := evB br Tryz.prog [] [] LO0 Tryz.f136 [cP (pL xs)]
def E_l03Subs2 : Entry := fun ivs => match ivs with | [.cv (.pv p)] => [(isL p, cP (pL (asL p)), [])] | _ => []
def kbb6 : List (FuncId × Entry) := (136, E_l03Subs2) :: kbb5
def kpF (a : ByteArray) : Nat → Nat → Option Nat
 | 0, _ => none
 | m + 1, i => if i < a.size ∧ i ≤ 8 then (if a.data.toList.getD i 0 = 1 then some i else kpF a m (i + 1)) else none
abbrev lp_kp : List (Nat × List Nat × List Nat) := [(2, [0, 5], [0, 2, 3, 4])]
def jjU (ls : LS) : List (Bool × Ex × LS) := match ls with
 | [(.pv (.str a), none), (.pv (.int .i64 i), none)] =>
  [(decide (a.size ≤ 2000) && (i == 1) && holds (isKy a), .ret, [aS a, aS (deKy a).1, aP (pL (deKy a).2), aB true]),
   (decide (a.size ≤ 2000) && (i == 1) && (kpF a 8 1).isSome, .ret, [aS a, aS ⟨#[]⟩, aP .nils, aB false]),
   (decide (a.size ≤ 2000) && (i == 1), .exit 0, [aS a, aX, aX, aX])]
 | _ => []
def LO_kp : LoopT := fun k ls => bif Nat.beq k 2 then jjU ls else []
def r_kp (br : Br) (a : ByteArray) (i : Int) := rdB br Tryz.prog kbb6 lp_kp LO_kp Tryz.f126 2 [] [aS a, aI i]
def q_kp (br : Br) (a : ByteArray) := evB br Tryz.prog kbb6 lp_kp LO_kp Tryz.f126 [cS a]
def E_SKeyPl : Entry := fun ivs => match ivs with
 | [.cv (.pv (.str a))] => [(decide (a.size ≤ 2000) && holds (isKy a), .tup [cS (deKy a).1, cP (pL (deKy a).2), cB true], []), (decide (a.size ≤ 2000), .tup [cS ⟨#[]⟩, cP .nils, cB false], [])]
 | _ => []
end
section
theorem jp9 (s : ByteArray) : q_key brC s =
 brC (decide (ByteArray.size s ≤ 1000000))
 (brC (jaD (Array.toList (ByteArray.data s)))
 (brC (decide (ByteArray.size s ≤ 1000000))
 (brC (decide (0 ≤ IntKind.wrap .i64 (numOf (Array.toList (ByteArray.data s)) + 1000000000000000000)) && holds (IntKind.wrap .i64 (numOf (Array.toList (ByteArray.data s)) + 1000000000000000000) ≤ 2000000000000000000) && Nat.beq 12288 12288 && Nat.beq 5 5 && Nat.beq 1 1 && holds ([PV.int .u8 1] = [PV.int .u8 (↑1 : Int)]) && 7 == 7)
 (brC (Nat.beq (List.length (pvB (keyH (Int.toNat (IntKind.wrap .i64 (numOf (Array.toList (ByteArray.data s)) + 1000000000000000000)))))) (List.length (pvB (keyH (Int.toNat (IntKind.wrap .i64 (numOf (Array.toList (ByteArray.data s)) + 1000000000000000000)))))) && Option.isSome (jaq (pvB (keyH (Int.toNat (IntKind.wrap .i64 (numOf (Array.toList (ByteArray.data s)) + 1000000000000000000)))))) && true)
 (some ((.cv (.pv (.str { data := List.toArray (Option.getD (jaq (pvB (keyH (Int.toNat (IntKind.wrap .i64 (numOf (Array.toList (ByteArray.data s)) + 1000000000000000000)))))) []) })), [])))
 none)
 none)
 none)
 (brC (decide (ByteArray.size s ≤ 1000000) && Nat.beq 12288 12288 && Nat.beq 5 5 && Nat.beq 1 1 && holds ([PV.int .u8 2] = [PV.int .u8 (↑2 : Int)]) && 0 == 0)
 (brC (Nat.beq 2 2 && (decide (List.length (pvB (hidL (2 :: escS (Array.toList (ByteArray.data s))))) + 2 ≤ 140737488351232) && decide ((List.length (pvB (hidL (2 :: escS (Array.toList (ByteArray.data s))))) + 2) * 1 ≤ 140737488355328)))
 (brC (Nat.beq (List.length (pvB (hidL (2 :: escS (Array.toList (ByteArray.data s)))) ++ [PV.int .u8 0, PV.int .u8 0])) (List.length (pvB (hidL (2 :: escS (Array.toList (ByteArray.data s))))) + 2) && Option.isSome (jaq (pvB (hidL (2 :: escS (Array.toList (ByteArray.data s)))) ++ [PV.int .u8 0, PV.int .u8 0])) && true)
 (some ((.cv (.pv (.str { data := List.toArray (Option.getD (jaq (pvB (hidL (2 :: escS (Array.toList (ByteArray.data s)))) ++ [PV.int .u8 0, PV.int .u8 0])) []) })), [])))
 none)
 none)
 none))
 none := by kernel_rfl
theorem jgM (s : ByteArray) (l : List UInt8) (i : Int) : jtG brC s l i =
 brC (decide (i < (↑(ByteArray.size s) : Int)))
 (brC (decide (0 ≤ i) && decide (i < (↑(ByteArray.size s) : Int)) && true)
 (brC (Nat.beq (List.length [PV.int .u8 (↑(UInt8.toNat (List.getD (Array.toList (ByteArray.data s)) (Int.toNat i) 0)) : Int)]) (1 * 1) && (decide (List.length (pvB l) + 1 ≤ 140737488351232) && decide ((List.length (pvB l) + 1) * 1 ≤ 140737488355328)))
 (brC (decide (0 ≤ i) && decide (i < (↑(ByteArray.size s) : Int)) && true)
 (brC ((↑(UInt8.toNat (List.getD (Array.toList (ByteArray.data s)) (Int.toNat i) 0)) : Int) == 0)
 (brC (Nat.beq 1 1 && (decide (List.length (pvB l) + 1 + 1 ≤ 140737488351232) && decide ((List.length (pvB l) + 1 + 1) * 1 ≤ 140737488355328)))
 (some (.inl [(.pv (.str s), none), (.own 12288, some (.lst 1 5 (List.length (pvB l) + 1 + 1) (pvB l ++ [PV.int .u8 (↑(UInt8.toNat (List.getD (Array.toList (ByteArray.data s)) (Int.toNat i) 0)) : Int)] ++ [PV.int .u8 255]) false)), (.pv (.int .i64 (IntKind.wrap .i64 (i + 1))), none)]))
 none)
 (some (.inl [(.pv (.str s), none), (.own 12288, some (.lst 1 5 (List.length (pvB l) + 1) (pvB l ++ [PV.int .u8 (↑(UInt8.toNat (List.getD (Array.toList (ByteArray.data s)) (Int.toNat i) 0)) : Int)]) false)), (.pv (.int .i64 (IntKind.wrap .i64 (i + 1))), none)])))
 none)
 none)
 none)
 (some (.inr (.exit 2, [(.pv (.str s), none), (.own 12288, some (.lst 1 5 (List.length (pvB l)) (pvB l) false))]))) := by kernel_rfl
theorem jo6 (s : ByteArray) : juq brC s =
 brC (decide (ByteArray.size s ≤ 2000) && Prod.fst (walkS 5 [] s) && Nat.beq 9 9 && Nat.beq 16384 16384 && Nat.beq 0 0 && nilB [])
 (brC (!ByteArray.toList (Prod.snd (Prod.snd (walkS 5 [] s))) == [])
 (some ((.tup [.cv (.lst 1 9 0 [] false), .cv (.pv (.bool false))], [])))
 (brC (isL (PV.sl (List.length (Prod.fst (Prod.snd (walkS 5 [] s)))) (List.map PV.str (Prod.fst (Prod.snd (walkS 5 [] s))))))
 (brC (!subsB (asL (PV.sl (List.length (Prod.fst (Prod.snd (walkS 5 [] s)))) (List.map PV.str (Prod.fst (Prod.snd (walkS 5 [] s)))))))
 (some ((.tup [.cv (.lst 1 9 0 [] false), .cv (.pv (.bool false))], [])))
 (brC (isL (PV.sl (List.length (Prod.fst (Prod.snd (walkS 5 [] s)))) (List.map PV.str (Prod.fst (Prod.snd (walkS 5 [] s))))) && subsB (asL (PV.sl (List.length (Prod.fst (Prod.snd (walkS 5 [] s)))) (List.map PV.str (Prod.fst (Prod.snd (walkS 5 [] s)))))))
 (brC (!ByteArray.toList (bs (encL (asL (PV.sl (List.length (Prod.fst (Prod.snd (walkS 5 [] s)))) (List.map PV.str (Prod.fst (Prod.snd (walkS 5 [] s)))))))) == ByteArray.toList s)
 (some ((.tup [.cv (.lst 1 9 0 [] false), .cv (.pv (.bool false))], [])))
 (some ((.tup [.cv (.lst 1 9 (List.length (Prod.fst (Prod.snd (walkS 5 [] s)))) (List.map PV.str (Prod.fst (Prod.snd (walkS 5 [] s)))) false), .cv (.pv (.bool true))], []))))
 none))
 none))
 (brC (decide (ByteArray.size s ≤ 2000) && Nat.beq 9 9 && Nat.beq 16384 16384 && Nat.beq 0 0 && nilB [])
 (some ((.tup [.cv (.lst 1 9 0 [] false), .cv (.pv (.bool false))], [])))
 none) := by kernel_rfl
theorem jjR (s : ByteArray) : jqq brC s =
 brC (decide (ByteArray.size s = 8) && 0 == 0 && 0 == 0)
 (some ((.cv (.pv (.int .i64 (beW (Array.toList (ByteArray.data s))))), [])))
 none := by kernel_rfl
theorem je5 (s : ByteArray) (n : Int) (i : Int) : jqO brC s n i =
 brC (decide (i < 8))
 (brC (decide (0 ≤ i) && decide (i < (↑(ByteArray.size s) : Int)) && true)
 (some (.inl [(.pv (.str s), none), (.pv (.int .i64 (bits BinOp.or .i64 (IntKind.wrap .i64 (n * 2 ^ 8)) (IntKind.wrap .i64 (↑(UInt8.toNat (List.getD (Array.toList (ByteArray.data s)) (Int.toNat i) 0)) : Int)))), none), (.pv (.int .i64 (IntKind.wrap .i64 (i + 1))), none)]))
 none)
 (some (.inr (.exit 0, [(.pv (.str s), none), (.pv (.int .i64 n), none)]))) := by kernel_rfl
theorem js6 (a : ByteArray) : q_kp brC a =
 brC (decide (ByteArray.size a ≤ 2000) && 1 == 1 && holds (isKy a))
 (some ((.tup [.cv (.pv (.str (Prod.fst (deKy a)))), .cv (.pv (.sl (List.length (Prod.snd (deKy a))) (List.map PV.str (Prod.snd (deKy a))))), .cv (.pv (.bool true))], [])))
 (brC (decide (ByteArray.size a ≤ 2000) && 1 == 1 && Option.isSome (kpF a 8 1))
 (some ((.tup [.cv (.pv (.str { data := #[] })), .cv (.pv .nils), .cv (.pv (.bool false))], [])))
 (brC (decide (ByteArray.size a ≤ 2000) && 1 == 1)
 (some ((.tup [.cv (.pv (.str { data := #[] })), .cv (.pv .nils), .cv (.pv (.bool false))], [])))
 none)) := by kernel_rfl
theorem jnp (s : ByteArray) (l : List UInt8) (i : Int) : r_tk brC s l i =
 brC (decide (IntKind.wrap .i64 (i + 1) < (↑(ByteArray.size s) : Int)))
 (brC (decide (0 ≤ i) && decide (i < (↑(ByteArray.size s) : Int)) && true)
 (brC ((↑(UInt8.toNat (List.getD (Array.toList (ByteArray.data s)) (Int.toNat i) 0)) : Int) != 0)
 (brC (decide (0 ≤ i) && decide (i < (↑(ByteArray.size s) : Int)) && true)
 (brC (Nat.beq (List.length [PV.int .u8 (↑(UInt8.toNat (List.getD (Array.toList (ByteArray.data s)) (Int.toNat i) 0)) : Int)]) (1 * 1) && (decide (List.length (pvB l) + 1 ≤ 140737488351232) && decide ((List.length (pvB l) + 1) * 1 ≤ 140737488355328)))
 (some (.inl [(.pv (.str s), none), (.own 24576, some (.lst 1 5 (List.length (pvB l) + 1) (pvB l ++ [PV.int .u8 (↑(UInt8.toNat (List.getD (Array.toList (ByteArray.data s)) (Int.toNat i) 0)) : Int)]) false)), (.pv (.int .i64 (IntKind.wrap .i64 (i + 1))), none)]))
 none)
 none)
 (brC (decide (0 ≤ IntKind.wrap .i64 (i + 1)) && decide (IntKind.wrap .i64 (i + 1) < (↑(ByteArray.size s) : Int)) && true)
 (brC ((↑(UInt8.toNat (List.getD (Array.toList (ByteArray.data s)) (Int.toNat (IntKind.wrap .i64 (i + 1))) 0)) : Int) == 0)
 (brC (Nat.beq (List.length (pvB l)) (List.length (pvB l)) && Option.isSome (jaq (pvB l)) && true)
 (brC (decide (0 ≤ IntKind.wrap .i64 (i + 2)) && decide (IntKind.wrap .i64 (i + 2) ≤ (↑(ByteArray.size s) : Int)) && decide ((↑(ByteArray.size s) : Int) ≤ (↑(ByteArray.size s) : Int)) && true && true)
 (some (.inr (.ret, [(.pv (.str s), none), (.pv (.str { data := List.toArray (Option.getD (jaq (pvB l)) []) }), none), (.pv (.str (ByteArray.extract s (Int.toNat (IntKind.wrap .i64 (i + 2))) (Int.toNat (↑(ByteArray.size s) : Int)))), none), (.pv (.bool true), none)])))
 none)
 none)
 (brC (decide (0 ≤ IntKind.wrap .i64 (i + 1)) && decide (IntKind.wrap .i64 (i + 1) < (↑(ByteArray.size s) : Int)) && true)
 (brC ((↑(UInt8.toNat (List.getD (Array.toList (ByteArray.data s)) (Int.toNat (IntKind.wrap .i64 (i + 1))) 0)) : Int) != 255)
 (some (.inr (.ret, [(.pv (.str s), none), (.pv (.str { data := #[] }), none), (.pv (.str { data := #[] }), none), (.pv (.bool false), none)])))
 (brC (Nat.beq 1 1 && (decide (List.length (pvB l) + 1 ≤ 140737488351232) && decide ((List.length (pvB l) + 1) * 1 ≤ 140737488355328)))
 (some (.inl [(.pv (.str s), none), (.own 24576, some (.lst 1 5 (List.length (pvB l) + 1) (pvB l ++ [PV.int .u8 0]) false)), (.pv (.int .i64 (IntKind.wrap .i64 (IntKind.wrap .i64 (i + 1) + 1))), none)]))
 none))
 none))
 none))
 none)
 (some (.inr (.exit 0, [(.pv (.str s), none), (.bad, none), (.bad, none), (.bad, none)]))) := by kernel_rfl
theorem jtm (s : ByteArray) : q_tk brC s =
 brC (decide (0 ≤ 0) && decide (0 < (↑(ByteArray.size s) : Int)) && true)
 (brC ((↑(UInt8.toNat (List.getD (Array.toList (ByteArray.data s)) 0 0)) : Int) == 1)
 (brC (decide ((↑(ByteArray.size s) : Int) ≥ 9))
 (brC (decide (0 ≤ 1) && decide (1 ≤ 9) && decide (9 ≤ (↑(ByteArray.size s) : Int)) && true && true)
 (brC (decide (ByteArray.size (ByteArray.extract s 1 9) = 8))
 (brC (!(decide (1 ≤ beW (Array.toList (ByteArray.data (ByteArray.extract s 1 9)))) && decide (beW (Array.toList (ByteArray.data (ByteArray.extract s 1 9))) ≤ 1999999999999999999)))
 (some ((.tup [.cv (.pv (.str { data := #[] })), .cv (.pv (.str { data := #[] })), .cv (.pv (.bool false))], [])))
 (brC (numIn (IntKind.wrap .i64 (beW (Array.toList (ByteArray.data (ByteArray.extract s 1 9))) - 1000000000000000000)))
 (brC (decide (0 ≤ 9) && decide (9 ≤ (↑(ByteArray.size s) : Int)) && decide ((↑(ByteArray.size s) : Int) ≤ (↑(ByteArray.size s) : Int)) && true && true)
 (some ((.tup [.cv (.pv (.str (bs (jax (IntKind.wrap .i64 (beW (Array.toList (ByteArray.data (ByteArray.extract s 1 9))) - 1000000000000000000)))))), .cv (.pv (.str (ByteArray.extract s 9 (Int.toNat (↑(ByteArray.size s) : Int))))), .cv (.pv (.bool true))], [])))
 none)
 none))
 none)
 none)
 (brC (decide (0 ≤ 0) && decide (0 < (↑(ByteArray.size s) : Int)) && true)
 (brC ((↑(UInt8.toNat (List.getD (Array.toList (ByteArray.data s)) 0 0)) : Int) != 2)
 (some ((.tup [.cv (.pv (.str { data := #[] })), .cv (.pv (.str { data := #[] })), .cv (.pv (.bool false))], [])))
 (brC (decide (ByteArray.size s ≤ 2000) && Nat.beq 24576 24576 && Nat.beq 5 5 && Nat.beq 0 0 && nilB [] && 1 == 1 && gsO (bs (List.drop 1 (Array.toList (ByteArray.data s)))))
 (some ((.tup [.cv (.pv (.str (gsT (bs (List.drop 1 (Array.toList (ByteArray.data s))))))), .cv (.pv (.str (gsR (bs (List.drop 1 (Array.toList (ByteArray.data s))))))), .cv (.pv (.bool true))], [])))
 (brC (decide (ByteArray.size s ≤ 2000) && Nat.beq 24576 24576 && Nat.beq 5 5 && Nat.beq 0 0 && nilB [] && 1 == 1 && un2 (List.drop 1 (Array.toList (ByteArray.data s))))
 (some ((.tup [.cv (.pv (.str { data := #[] })), .cv (.pv (.str { data := #[] })), .cv (.pv (.bool false))], [])))
 (brC (decide (ByteArray.size s ≤ 2000) && Nat.beq 24576 24576 && Nat.beq 5 5 && Nat.beq 0 0 && nilB [] && 1 == 1)
 (some ((.tup [.cv (.pv (.str { data := #[] })), .cv (.pv (.str { data := #[] })), .cv (.pv (.bool false))], [])))
 none))))
 none))
 (brC (decide (0 ≤ 0) && decide (0 < (↑(ByteArray.size s) : Int)) && true)
 (brC ((↑(UInt8.toNat (List.getD (Array.toList (ByteArray.data s)) 0 0)) : Int) != 2)
 (some ((.tup [.cv (.pv (.str { data := #[] })), .cv (.pv (.str { data := #[] })), .cv (.pv (.bool false))], [])))
 (brC (decide (ByteArray.size s ≤ 2000) && Nat.beq 24576 24576 && Nat.beq 5 5 && Nat.beq 0 0 && nilB [] && 1 == 1 && gsO (bs (List.drop 1 (Array.toList (ByteArray.data s)))))
 (some ((.tup [.cv (.pv (.str (gsT (bs (List.drop 1 (Array.toList (ByteArray.data s))))))), .cv (.pv (.str (gsR (bs (List.drop 1 (Array.toList (ByteArray.data s))))))), .cv (.pv (.bool true))], [])))
 (brC (decide (ByteArray.size s ≤ 2000) && Nat.beq 24576 24576 && Nat.beq 5 5 && Nat.beq 0 0 && nilB [] && 1 == 1 && un2 (List.drop 1 (Array.toList (ByteArray.data s))))
 (some ((.tup [.cv (.pv (.str { data := #[] })), .cv (.pv (.str { data := #[] })), .cv (.pv (.bool false))], [])))
 (brC (decide (ByteArray.size s ≤ 2000) && Nat.beq 24576 24576 && Nat.beq 5 5 && Nat.beq 0 0 && nilB [] && 1 == 1)
 (some ((.tup [.cv (.pv (.str { data := #[] })), .cv (.pv (.str { data := #[] })), .cv (.pv (.bool false))], [])))
 none))))
 none))
 none := by kernel_rfl
theorem jiU (s : ByteArray) (cn : Nat) (cl : List PV) (r : ByteArray) : jtW brC s cn cl r =
 brC (!ByteArray.toList r == [])
 (brC (decide ((↑cn : Int) ≤ 4))
 (brC (decide (0 < ByteArray.size r) && decide (ByteArray.size r ≤ 2000))
 (brC (!tkO r)
 (some (.inr (.ret, [(.pv (.str s), none), (.own 8192, some (.lst 1 9 0 [] false)), (.pv (.bool false), none), (.own 16384, some (.lst 1 9 cn cl false)), (.pv (.str r), none)])))
 (brC (Nat.beq (List.length [PV.str (tkT r)]) (1 * 1) && (decide (cn + 1 ≤ 140737488351232) && decide ((cn + 1) * 16 ≤ 140737488355328)))
 (some (.inl [(.pv (.str s), none), (.own 16384, some (.lst 1 9 (cn + 1) (cl ++ [PV.str (tkT r)]) false)), (.pv (.str (tkL r)), none)]))
 none))
 none)
 (some (.inr (.exit 0, [(.pv (.str s), none), (.bad, none), (.bad, none), (.own 16384, some (.lst 1 9 cn cl false)), (.pv (.str r), none)]))))
 (some (.inr (.exit 0, [(.pv (.str s), none), (.bad, none), (.bad, none), (.own 16384, some (.lst 1 9 cn cl false)), (.pv (.str r), none)]))) := by kernel_rfl
theorem jkN (xs : List ByteArray) (t : ByteArray) (i : Int) : r_put brC xs t i =
 brC (decide (i < (↑(List.length xs) : Int)))
 (brC (decide (0 ≤ i) && decide (i < (↑(List.length xs) : Int)))
 (brC (Nat.blt 0 (List.length (List.drop (Int.toNat i * 1) (List.map PV.str xs))) && PV.isStr (List.headD (List.drop (Int.toNat i * 1) (List.map PV.str xs)) PV.nilp) && true)
 (brC (decide (ByteArray.size (PV.asStr (List.headD (List.drop (Int.toNat i * 1) (List.map PV.str xs)) PV.nilp)) ≤ 1000000))
 (brC (decide (ByteArray.size t + ByteArray.size (bs (encS (Array.toList (ByteArray.data (PV.asStr (List.headD (List.drop (Int.toNat i * 1) (List.map PV.str xs)) PV.nilp)))))) ≤ 9223372036854775807) && true)
 (some (.inl [(.pv (.sl (List.length xs) (List.map PV.str xs)), none), (.pv (.str (t ++ bs (encS (Array.toList (ByteArray.data (PV.asStr (List.headD (List.drop (Int.toNat i * 1) (List.map PV.str xs)) PV.nilp))))))), none), (.pv (.int .i64 (IntKind.wrap .i64 (i + 1))), none)]))
 none)
 none)
 none)
 none)
 (some (.inr (.exit 0, [(.pv (.sl (List.length xs) (List.map PV.str xs)), none), (.pv (.str t), none)]))) := by kernel_rfl
theorem jhe (xs : List ByteArray) : jm9 brC xs =
 brC (isL (PV.sl (List.length xs) (List.map PV.str xs)))
 (brC (!subsB (asL (PV.sl (List.length xs) (List.map PV.str xs))))
 (some ((.cv (.pv (.str { data := #[] })), [])))
 (brC (isL (PV.sl (List.length xs) (List.map PV.str xs)) && subsB (asL (PV.sl (List.length xs) (List.map PV.str xs))))
 (some ((.cv (.pv (.str (bs (encL (asL (PV.sl (List.length xs) (List.map PV.str xs))))))), [])))
 none))
 none := by kernel_rfl
theorem jiR (s : ByteArray) (l : List UInt8) (n : Int) (k : Int) : jui brC s l n k =
 brC (decide (k ≥ 0))
 (brC (decide (0 ≤ IntKind.wrap .i64 (8 * k)) && true)
 (brC (Nat.beq (List.length [PV.int .u8 (IntKind.wrap .u8 (Int.fdiv n (2 ^ min (Int.toNat (IntKind.wrap .i64 (8 * k))) 64)))]) (1 * 1) && (decide (List.length (pvB l) + 1 ≤ 140737488351232) && decide ((List.length (pvB l) + 1) * 1 ≤ 140737488355328)))
 (some (.inl [(.pv (.str s), none), (.own 12288, some (.lst 1 5 (List.length (pvB l) + 1) (pvB l ++ [PV.int .u8 (IntKind.wrap .u8 (Int.fdiv n (2 ^ min (Int.toNat (IntKind.wrap .i64 (8 * k))) 64)))]) false)), (.pv (.int .i64 n), none), (.pv (.int .i64 (IntKind.wrap .i64 (k - 1))), none)]))
 none)
 none)
 (some (.inr (.exit 0, [(.pv (.str s), none), (.own 12288, some (.lst 1 5 (List.length (pvB l)) (pvB l) false))]))) := by kernel_rfl
theorem jho (xs : List ByteArray) : jmo brC xs =
 brC (Nat.beq (List.length (List.map PV.str xs)) (List.length xs * 1) && (decide (0 + List.length xs ≤ 140737488351232) && decide ((0 + List.length xs) * 16 ≤ 140737488355328)))
 (some ((.cv (.lst 1 9 (0 + List.length xs) ([] ++ List.map PV.str xs) false), [])))
 none := by kernel_rfl
theorem jpy (a : ByteArray) (i : Int) : r_kp brC a i =
 brC (decide (i < (↑(ByteArray.size a) : Int)))
 (brC (decide (i ≤ 8))
 (brC (decide (0 ≤ i) && decide (i < (↑(ByteArray.size a) : Int)) && true)
 (brC ((↑(UInt8.toNat (List.getD (Array.toList (ByteArray.data a)) (Int.toNat i) 0)) : Int) != (↑1 : Int))
 (some (.inl [(.pv (.str a), none), (.pv (.int .i64 (IntKind.wrap .i64 (i + 1))), none)]))
 (brC (decide (0 ≤ IntKind.wrap .i64 (i + 1)) && decide (IntKind.wrap .i64 (i + 1) ≤ (↑(ByteArray.size a) : Int)) && decide ((↑(ByteArray.size a) : Int) ≤ (↑(ByteArray.size a) : Int)) && true && true)
 (brC (decide (ByteArray.size (ByteArray.extract a (Int.toNat (IntKind.wrap .i64 (i + 1))) (Int.toNat (↑(ByteArray.size a) : Int))) ≤ 2000) && holds (isEnc (Array.toList (ByteArray.data (ByteArray.extract a (Int.toNat (IntKind.wrap .i64 (i + 1))) (Int.toNat (↑(ByteArray.size a) : Int)))))))
 (brC (decide (0 ≤ 0) && decide (0 ≤ i) && decide (i ≤ (↑(ByteArray.size a) : Int)) && true && true)
 (brC (decide (ByteArray.size (ByteArray.extract a 0 (Int.toNat i)) ≤ 1000000) && isL (PV.sl (List.length (decL (Array.toList (ByteArray.data (ByteArray.extract a (Int.toNat (IntKind.wrap .i64 (i + 1))) (Int.toNat (↑(ByteArray.size a) : Int))))))) (List.map PV.str (decL (Array.toList (ByteArray.data (ByteArray.extract a (Int.toNat (IntKind.wrap .i64 (i + 1))) (Int.toNat (↑(ByteArray.size a) : Int)))))))))
 (brC (!jbD (ByteArray.extract a 0 (Int.toNat i)) (asL (PV.sl (List.length (decL (Array.toList (ByteArray.data (ByteArray.extract a (Int.toNat (IntKind.wrap .i64 (i + 1))) (Int.toNat (↑(ByteArray.size a) : Int))))))) (List.map PV.str (decL (Array.toList (ByteArray.data (ByteArray.extract a (Int.toNat (IntKind.wrap .i64 (i + 1))) (Int.toNat (↑(ByteArray.size a) : Int))))))))))
 (some (.inr (.ret, [(.pv (.str a), none), (.pv (.str { data := #[] }), none), (.pv .nils, none), (.pv (.bool false), none)])))
 (brC (decide (0 ≤ 0) && decide (0 ≤ i) && decide (i ≤ (↑(ByteArray.size a) : Int)) && true && true)
 (brC (isL (PV.sl (List.length (decL (Array.toList (ByteArray.data (ByteArray.extract a (Int.toNat (IntKind.wrap .i64 (i + 1))) (Int.toNat (↑(ByteArray.size a) : Int))))))) (List.map PV.str (decL (Array.toList (ByteArray.data (ByteArray.extract a (Int.toNat (IntKind.wrap .i64 (i + 1))) (Int.toNat (↑(ByteArray.size a) : Int)))))))))
 (some (.inr (.ret, [(.pv (.str a), none), (.pv (.str (ByteArray.extract a 0 (Int.toNat i))), none), (.pv (.sl (List.length (asL (PV.sl (List.length (decL (Array.toList (ByteArray.data (ByteArray.extract a (Int.toNat (IntKind.wrap .i64 (i + 1))) (Int.toNat (↑(ByteArray.size a) : Int))))))) (List.map PV.str (decL (Array.toList (ByteArray.data (ByteArray.extract a (Int.toNat (IntKind.wrap .i64 (i + 1))) (Int.toNat (↑(ByteArray.size a) : Int)))))))))) (List.map PV.str (asL (PV.sl (List.length (decL (Array.toList (ByteArray.data (ByteArray.extract a (Int.toNat (IntKind.wrap .i64 (i + 1))) (Int.toNat (↑(ByteArray.size a) : Int))))))) (List.map PV.str (decL (Array.toList (ByteArray.data (ByteArray.extract a (Int.toNat (IntKind.wrap .i64 (i + 1))) (Int.toNat (↑(ByteArray.size a) : Int))))))))))), none), (.pv (.bool true), none)])))
 none)
 none))
 none)
 none)
 (brC (decide (ByteArray.size (ByteArray.extract a (Int.toNat (IntKind.wrap .i64 (i + 1))) (Int.toNat (↑(ByteArray.size a) : Int))) ≤ 2000))
 (some (.inr (.ret, [(.pv (.str a), none), (.pv (.str { data := #[] }), none), (.pv .nils, none), (.pv (.bool false), none)])))
 none))
 none))
 none)
 (some (.inr (.exit 0, [(.pv (.str a), none), (.bad, none), (.bad, none), (.bad, none)]))))
 (some (.inr (.exit 0, [(.pv (.str a), none), (.bad, none), (.bad, none), (.bad, none)]))) := by kernel_rfl
theorem jqs (xs : List ByteArray) : q_put brC xs =
 brC (isL (pL xs) && subsB (asL (pL xs)) && Nat.beq 0 0 && 0 == 0)
 (some ((.cv (.pv (.str (bs (encL (asL (pL xs)))))), [])))
 none := by kernel_rfl
end
end
end Go.Proofs.YtnjecdcbaeeeoaaGreatDoor
