import Derived.WalkKit
import Derived.WalkSpells
import Derived.WalkLawsBesides
import Derived.Deep.QuietTactic
import Derived.BigQuiet
import Derived.Deep.Draws
import Derived.Lib.Hide
import Derived.IntWalk
import Derived.Laws.OwnMore
import Derived.Deep.AppendLies
import Derived.Maps.AppendAt
import Derived.RegionTactic
import Derived.OwnWalk
import Derived.Test.YtdpndampalapfaaGreatDoorProg
import Derived.Lib.ItoaNum
import Derived.Test.YtdpndampalapfaaGreatDoorNumS
import Derived.Shelf.Strings.SlTrimAscii
import Derived.Lib.SmallJoins
import Derived.Lib.ConvBytes
import Derived.Lib.AppendIntMem
import Derived.Deep.DeepCutAuto
import Derived.Deep.CutBlock
import Derived.Deep.RegionWith
import Derived.Laws.IdiomStrings
namespace Go.Proofs.YtdpndampalapfaaGreatDoor
section
open Go.RowKit
set_option linter.unusedVariables false
def Blk (w : World) (g : Nat) (t : TypeId) (cs : Array Value) : Prop := w.heap[g]? = some (.cells cs t (0, 0))
section
variable {w w' : World} {g : Nat} {t : TypeId} {cs : Array Value}
theorem Blk.lt (h : Blk w g t cs) : g < w.heap.size := by
  rcases Nat.lt_or_ge g w.heap.size with hlt | hge
  · exact hlt
  · unfold Blk at h; rw [Array.getElem?_eq_none hge] at h; cases h
theorem Blk.cell (h : Blk w g t cs) (i : Nat) : w.cell? ⟨g, i, none⟩ = cs[i]? := cell_of_row w g i cs t (0, 0) h
theorem Blk.frozen (h : Blk w g t cs) (i : Nat) : w.frozen? ⟨g, i, none⟩ = false := by
  unfold Blk at h
  simp [World.frozen?, h]
theorem Blk.new (w : World) (t : TypeId) (cs : Array Value) : Blk (w.alloc (.cells cs t)) w.heap.size t cs := heap_alloc_new w _
theorem Blk.drew (h : Blk w g t cs) : Blk w.drew g t cs := h
theorem Blk.drewN (h : Blk w g t cs) (n : Nat) : Blk (w.drewN n) g t cs := h
theorem Blk.alloc (h : Blk w g t cs) (o : Obj) : Blk (w.alloc o) g t cs := (Below.heap_alloc w o g h.lt).trans h
theorem Blk.set_ (h : Blk w g t cs) (i : Nat) (u : Value) : Blk (w.setCell ⟨g, i, none⟩ u) g t (cs.setIfInBounds i u) := by
  unfold Blk at h ⊢
  simp [World.setCell, Array.getElem?_modify, h]
theorem Blk.below {B : Nat} (h : Blk w g t cs) (hb : Below B w w') (hg : g < B) : Blk w' g t cs := (hb.block g hg).trans h
end
section
variable {a w : World} {row : Option Nat} {g : Nat}
theorem only_drewN (h : a.grownBy w row) (n : Nat) : a.grownBy (w.drewN n) row := ⟨h.os, h.tape, h.output, h.size, h.block⟩
theorem only_setCell (h : a.grownBy w (some g)) {p : Addr} (hp : p.block = g ∨ a.heap.size ≤ p.block) (u : Value) : a.grownBy (w.setCell p u) (some g) :=
  ⟨h.os, h.tape, h.output, by simpa [World.setCell] using h.size, fun i hi hne => (Below.heap_setCell w p u i (by
    rintro rfl
    rcases hp with hp | hp
    · exact hne (by rw [hp])
    · omega)).trans (h.block i hi hne)⟩
end
end
section
open Go.RowKit
set_option linter.unusedVariables false
theorem block_of_add (a : Addr) (n : Nat) : (a.add n).block = a.block := by unfold Addr.add; split <;> rfl
def Reads (w : World) (B size : Nat) (A : Option Addr) (n : Nat) (xs : List Value) : Prop :=
  xs.length = n * size ∧ (0 < n → ∃ ad, A = some ad ∧ ad.block < B ∧ ∀ j u, xs[j]? = some u → w.cell? (ad.add j) = some u)
section
variable {w w' : World} {B B' size n : Nat} {A : Option Addr} {xs : List Value}
theorem Reads.keep (h : Reads w B size A n xs) (hk : ∀ p : Addr, p.block < B → w'.cell? p = w.cell? p) : Reads w' B size A n xs :=
  ⟨h.1, fun hn => by
    obtain ⟨ad, e, hb, hc⟩ := h.2 hn
    exact ⟨ad, e, hb, fun j u hu => (hk _ (by rw [block_of_add]; exact hb)).trans (hc j u hu)⟩⟩
theorem Reads.more (h : Reads w B size A n xs) (hB : B ≤ B') : Reads w B' size A n xs :=
  ⟨h.1, fun hn => by
    obtain ⟨ad, e, hb, hc⟩ := h.2 hn
    exact ⟨ad, e, by omega, hc⟩⟩
theorem Reads.below (h : Reads w B size A n xs) (hb : Below B w w') : Reads w' B size A n xs := h.keep fun _ hp => hb.cell hp
theorem Reads.drew (h : Reads w B size A n xs) : Reads w.drew B size A n xs := h
theorem Reads.drewN (h : Reads w B size A n xs) (k : Nat) : Reads (w.drewN k) B size A n xs := h
theorem Reads.alloc (h : Reads w B size A n xs) (hB : B ≤ w.heap.size) (o : Obj) : Reads (w.alloc o) B size A n xs := h.keep fun p hp => World.cell?_alloc_lt w o p (by omega)
theorem Reads.setCell (h : Reads w B size A n xs) {p : Addr} (hB : B ≤ p.block) (u : Value) : Reads (w.setCell p u) B size A n xs :=
  h.keep fun q hq => World.cell?_setCell_other w p q u (fun e => by subst e; omega)
end
section
variable {P : Program} (w : World)
end
end
section
open Go.RowKit
set_option linter.unusedVariables false
def BytesAt (w : World) (B : Nat) (a : Option Addr) (len : Nat) : Prop :=
  0 < len → ∃ b off, a = some ⟨b, off, none⟩ ∧ b < B ∧ ∀ i, i < len → ∃ z : Nat, z < 256 ∧ w.cell? ⟨b, off + i, none⟩ = some (.int .u8 z)
theorem BytesAt.keep {w w' : World} {B : Nat} {a : Option Addr} {len : Nat} (h : BytesAt w B a len) (hk : ∀ b o, b < B → w'.cell? ⟨b, o, none⟩ = w.cell? ⟨b, o, none⟩) : BytesAt w' B a len := by
  intro hl
  obtain ⟨b, off, rfl, hb, hc⟩ := h hl
  refine ⟨b, off, rfl, hb, fun i hi => ?_⟩
  obtain ⟨z, hz, hcz⟩ := hc i hi
  exact ⟨z, hz, by rw [hk b _ hb]; exact hcz⟩
theorem BytesAt.more {w : World} {B B' : Nat} {a : Option Addr} {len : Nat} (h : BytesAt w B a len) (hB : B ≤ B') : BytesAt w B' a len := by
  intro hl
  obtain ⟨b, off, rfl, hb, hc⟩ := h hl
  exact ⟨b, off, rfl, by omega, hc⟩
def Src (n : Nat) (w : World) (g : Nat) : Prop :=
  ∃ (a : Option Addr) (len cap p : Nat) (s : Int), w.heap[g]? = some (.cells #[.slice a len cap, .int .i64 p, .int .u64 s] 179 (0, 0)) ∧
    len ≤ 1048577 ∧ p ≤ n ∧ BytesAt w g a len
theorem Src.lt {n : Nat} {w : World} {g : Nat} (h : Src n w g) : g < w.heap.size := by
  obtain ⟨a, len, cap, p, s, hg, _⟩ := h
  rcases Nat.lt_or_ge g w.heap.size with hlt | hge
  · exact hlt
  · rw [Array.getElem?_eq_none hge] at hg; cases hg
theorem Src.more {n m : Nat} {w : World} {g : Nat} (h : Src n w g) (hm : n ≤ m) : Src m w g := by
  obtain ⟨a, len, cap, p, s, hg, hl, hp, hb⟩ := h
  exact ⟨a, len, cap, p, s, hg, hl, by omega, hb⟩
theorem Src.keep {n : Nat} {w w' : World} {g : Nat} (h : Src n w g) (hk : ∀ b, b ≤ g → w'.heap[b]? = w.heap[b]?) : Src n w' g := by
  obtain ⟨a, len, cap, p, s, hg, hl, hp, hb⟩ := h
  exact ⟨a, len, cap, p, s, by rw [hk g (Nat.le_refl _)]; exact hg, hl, hp, hb.keep fun b o hlt => World.cell?_of_block (w := w) (hk b (by omega))⟩
theorem Src.below {n B : Nat} {w w' : World} {g : Nat} (h : Src n w g) (hb : Below B w w') (hB : g < B) : Src n w' g := h.keep fun b hle => hb.block b (by omega)
theorem Src.step {w : World} {g : Nat} {a : Option Addr} {len cap p n : Nat} {s s' : Int} (h : w.heap[g]? = some (.cells #[.slice a len cap, .int .i64 p, .int .u64 s] 179 (0, 0)))
    (hl : len ≤ 1048577) (hp : p ≤ n) (hb : BytesAt w g a len) (k j : Nat) :
    Src (n + 1) ((((w.drewN k).setCell ⟨g, 1, none⟩ (.int .i64 ((p : Int) + 1))).setCell ⟨g, 2, none⟩ (.int .u64 s')).drewN j) g ∧
      w.grownBy ((((w.drewN k).setCell ⟨g, 1, none⟩ (.int .i64 ((p : Int) + 1))).setCell ⟨g, 2, none⟩ (.int .u64 s')).drewN j) (some g) := by
  have h0 : Blk w g 179 #[.slice a len cap, .int .i64 p, .int .u64 s] := h
  have h1 := (((h0.drewN k).set_ 1 (.int .i64 ((p : Int) + 1))).set_ 2 (.int .u64 s')).drewN j
  have hg := only_drewN (only_setCell (p := ⟨g, 2, none⟩) (only_setCell (p := ⟨g, 1, none⟩) (only_drewN (World.grownBy.refl w (some g)) k) (.inl rfl) (.int .i64 ((p : Int) + 1))) (.inl rfl) (.int .u64 s')) j
  refine ⟨⟨a, len, cap, p + 1, s', h1, hl, by omega, hb.keep fun b o hlt => World.cell?_of_block (w := w) (hg.block b (by have := h0.lt; omega) (by intro e; injection e with e; omega))⟩, hg⟩
end
section
open Go.RowKit
set_option linter.unusedVariables false
end
section
open Go.RowKit
set_option linter.unusedVariables false
end
section
open Go.RowKit
set_option linter.unusedVariables false
theorem Src.alloc {n : Nat} {w : World} {g : Nat} (h : Src n w g) (o : Obj) : Src n (w.alloc o) g := h.keep fun b hb => Below.heap_alloc w o b (by have := h.lt; omega)
end
section
open Go.RowKit
set_option linter.unusedVariables false
def inR (n lo hi : Int) : Bool := decide (lo ≤ n ∧ n ≤ hi)
theorem inR_t {n lo hi : Int} (h : lo ≤ n) (k : n ≤ hi) : inR n lo hi = true := by simp [inR, h, k]
theorem inR_f {n lo hi : Int} (h : n < lo ∨ hi < n) : inR n lo hi = false := by simp only [inR, decide_eq_false_iff_not]; omega
theorem within_any (n lo hi : Int) (b : Bool) (hb : inR n lo hi = b) (w : World) :
    Calls Tryz.prog 91 #[.int .i64 n, .int .i64 lo, .int .i64 hi] w fun e w' => e = .returned (.bool b) ∧ w = w' := by
  subst hb
  by_cases h1 : lo ≤ n
  · by_cases h2 : n ≤ hi
    · have hr := Lib.hid (inR_t h1 h2)
      go_enter Tryz.func91, Tryz.ntmps91
      go_wp2
      go_ret
      exact ⟨by rw [hr.out]; rfl, rfl⟩
    · have hr := Lib.hid (inR_f (n := n) (lo := lo) (hi := hi) (.inr (by omega)))
      have h3 : decide (n ≤ hi) = false := by simp; omega
      go_enter Tryz.func91, Tryz.ntmps91
      go_wp2
      go_ret
      exact ⟨by rw [hr.out]; rfl, rfl⟩
  · have hr := Lib.hid (inR_f (n := n) (lo := lo) (hi := hi) (.inl (by omega)))
    have h3 : decide (lo ≤ n) = false := by simp; omega
    go_enter Tryz.func91, Tryz.ntmps91
    go_wp2
    go_ret
    exact ⟨by rw [hr.out]; rfl, rfl⟩
theorem isNum_any (n : Int) (b : Bool) (hb : inR n (-999999999999999999) 999999999999999999 = b) (w : World) :
    Calls Tryz.prog 351 #[.int .i64 n] w fun e w' => e = .returned (.bool b) ∧ w = w' := by
  have HB := Lib.hid hb
  clear hb
  go_enter Tryz.func351, Tryz.ntmps351
  go_wp2_with fail
  refine (within_any _ _ _ b HB.out _).mono ?_
  rintro e w1 ⟨rfl, rfl⟩
  go_wp2_with fail
  go_ret
  exact ⟨rfl, rfl⟩
def IsNum (n : Int) : Prop := -999999999999999999 ≤ n ∧ n ≤ 999999999999999999
theorem IsNum.inR {n : Int} (h : IsNum n) : inR n (-999999999999999999) 999999999999999999 = true := inR_t h.1 h.2
end
section
set_option linter.unusedVariables false
def isSign (c : UInt8) : Bool := c == 43 || c == 45
def isDig (c : UInt8) : Bool := decide (48 ≤ c.toNat) && decide (c.toNat ≤ 57)
def dval (c : UInt8) : Nat := c.toNat - 48
def valF (n : Nat) : List UInt8 → Nat
  | [] => n
  | c :: l => valF (10 * n + dval c) l
def maxNum : Nat := 999999999999999999
def fracOf : List UInt8 → List UInt8
  | [] => []
  | c :: t => if c = 46 then t.takeWhile isDig else []
def six : List UInt8 := [48, 48, 48, 48, 48, 48]
def numDigits (l : List UInt8) : List UInt8 :=
  (l.dropWhile isSign).takeWhile isDig ++ (fracOf ((l.dropWhile isSign).dropWhile isDig) ++ six).take 6
def negB (l : List UInt8) : Bool := decide ((l.takeWhile isSign).count 45 % 2 = 1)
def numOf (l : List UInt8) : Int :=
  if negB l = true then -((min (valF 0 (numDigits l)) maxNum : Nat) : Int) else ((min (valF 0 (numDigits l)) maxNum : Nat) : Int)
theorem numOf_range (l : List UInt8) : -999999999999999999 ≤ numOf l ∧ numOf l ≤ 999999999999999999 := by
  unfold numOf
  have h : min (valF 0 (numDigits l)) maxNum ≤ maxNum := Nat.min_le_right _ _
  have e : maxNum = 999999999999999999 := rfl
  split <;> omega
def wholeD (n : Nat) : List UInt8 :=
  if h : n = 0 then [] else wholeD (n / 10) ++ [UInt8.ofNat (48 + n % 10)]
termination_by n
decreasing_by omega
theorem wholeD_zero : wholeD 0 = [] := by rw [wholeD]; simp
theorem wholeD_pos {n : Nat} (h : n ≠ 0) : wholeD n = wholeD (n / 10) ++ [UInt8.ofNat (48 + n % 10)] := by rw [wholeD, dif_neg h]
theorem wholeD_dec {n : Nat} (h : n ≠ 0) : wholeD n = Lib.decDigits n := by
  induction n using Nat.strongRecOn with
  | _ n ih =>
    rw [wholeD_pos h, Lib.decDigits]
    by_cases h1 : n < 10
    · rw [dif_pos h1, show n / 10 = 0 by omega, wholeD_zero, show n % 10 = n by omega]; rfl
    · rw [dif_neg h1, ih (n / 10) (by omega) (by omega)]
def strip0 (l : List UInt8) : List UInt8 := (l.reverse.dropWhile (· == 48)).reverse
def fracD (r : Nat) : List UInt8 := (wholeD (1000000 + r)).drop 1
def body (m : Nat) : List UInt8 := wholeD (m / 1000000) ++ (if m % 1000000 = 0 then [] else 46 :: strip0 (fracD (m % 1000000)))
def bodyT (m : Nat) : List UInt8 := if m = 0 then [48] else body m
def textOf (n : Int) : List UInt8 := if n < 0 then 45 :: bodyT n.natAbs else bodyT n.natAbs
def canonB (l : List UInt8) : Bool := decide (textOf (numOf l) = l)
theorem toNat_dig {k : Nat} (h : k < 10) : (UInt8.ofNat (48 + k)).toNat = 48 + k := by
  rw [UInt8.toNat_ofNat']; omega
theorem isDig_dig {k : Nat} (h : k < 10) : isDig (UInt8.ofNat (48 + k)) = true := by
  unfold isDig; rw [toNat_dig h, decide_eq_true (by omega), decide_eq_true (by omega)]; rfl
theorem dval_dig {k : Nat} (h : k < 10) : dval (UInt8.ofNat (48 + k)) = k := by unfold dval; rw [toNat_dig h]; omega
theorem wholeD_digs (n : Nat) : ∀ c ∈ wholeD n, isDig c = true := by
  induction n using Nat.strongRecOn with
  | _ n ih =>
    by_cases h : n = 0
    · rw [h, wholeD_zero]; simp
    · rw [wholeD_pos h]
      intro c hc
      rcases List.mem_append.1 hc with hc | hc
      · exact ih (n / 10) (by omega) c hc
      · rw [List.mem_singleton.1 hc]; exact isDig_dig (by omega)
theorem valF_append (n : Nat) (a b : List UInt8) : valF n (a ++ b) = valF (valF n a) b := by
  induction a generalizing n with
  | nil => rfl
  | cons c a ih => exact ih _
theorem valF_wholeD (n : Nat) : valF 0 (wholeD n) = n := by
  induction n using Nat.strongRecOn with
  | _ n ih =>
    by_cases h : n = 0
    · rw [h, wholeD_zero]; rfl
    · rw [wholeD_pos h, valF_append, ih (n / 10) (by omega)]
      show 10 * (n / 10) + dval _ = n
      rw [dval_dig (by omega)]; omega
theorem valF_shift (n : Nat) (l : List UInt8) : valF n l = n * 10 ^ l.length + valF 0 l := by
  induction l generalizing n with
  | nil => show n = n * 1 + 0; omega
  | cons c l ih =>
    show valF (10 * n + dval c) l = _
    rw [ih]
    have e : valF 0 (c :: l) = valF (10 * 0 + dval c) l := rfl
    rw [e, ih (10 * 0 + dval c), List.length_cons, Nat.pow_succ, Nat.add_mul, Nat.mul_zero, Nat.zero_add, Nat.add_assoc]
    congr 1
    rw [Nat.mul_comm 10 n, Nat.mul_assoc, Nat.mul_comm 10]
theorem wholeD_length {n k : Nat} (h : 10 ^ k ≤ n) (h2 : n < 10 ^ (k + 1)) : (wholeD n).length = k + 1 := by
  induction k generalizing n with
  | zero =>
    have h' : n ≠ 0 := by simp at h; omega
    rw [wholeD_pos h', show n / 10 = 0 by simp at h2; omega, wholeD_zero]; rfl
  | succ k ih =>
    have h0 : n ≠ 0 := by have : 0 < 10 ^ (k + 1) := Nat.pow_pos (by omega); omega
    have e1 : 10 ^ (k + 1) = 10 ^ k * 10 := Nat.pow_succ ..
    have e2 : 10 ^ (k + 1 + 1) = 10 ^ (k + 1) * 10 := Nat.pow_succ ..
    rw [wholeD_pos h0, List.length_append, ih (n := n / 10) (by omega) (by omega)]; rfl
theorem fracD_length {r : Nat} (h : r < 1000000) : (fracD r).length = 6 := by
  unfold fracD
  rw [List.length_drop, wholeD_length (k := 6) (by omega) (by omega)]
theorem wholeD_head {r : Nat} (h : r < 1000000) : wholeD (1000000 + r) = 49 :: fracD r := by
  have hl := wholeD_length (n := 1000000 + r) (k := 6) (by omega) (by omega)
  unfold fracD
  match hw : wholeD (1000000 + r), hl with
  | c :: t, hl =>
    have hv := valF_wholeD (1000000 + r)
    have hd := wholeD_digs (1000000 + r) c (by rw [hw]; simp)
    rw [hw] at hv
    have hv2 : valF (10 * 0 + dval c) t = 1000000 + r := hv
    have hl6 : t.length = 6 := by simpa using hl
    rw [valF_shift, hl6] at hv2
    have hb : valF 0 t < 1000000 := by
      have : ∀ (l : List UInt8), (∀ c ∈ l, isDig c = true) → valF 0 l < 10 ^ l.length := by
        intro l
        induction l with
        | nil => intro _; exact Nat.one_pos
        | cons c l ih =>
          intro hh
          have h1 := ih (fun x hx => hh x (List.mem_cons_of_mem _ hx))
          have h2 := hh c (by simp)
          unfold isDig at h2
          simp at h2
          show valF (10 * 0 + dval c) l < _
          rw [valF_shift, List.length_cons, Nat.pow_succ]
          have h3 : dval c ≤ 9 := by unfold dval; omega
          have h4 : (10 * 0 + dval c) * 10 ^ l.length ≤ 9 * 10 ^ l.length := Nat.mul_le_mul_right _ (by omega)
          omega
      have := this t (fun x hx => wholeD_digs (1000000 + r) x (by rw [hw]; exact List.mem_cons_of_mem _ hx))
      rwa [hl6] at this
    have h1 : dval c = 1 := by omega
    unfold isDig at hd
    simp at hd
    have hc : c.toNat = 49 := by unfold dval at h1; omega
    have : c = 49 := UInt8.toNat_inj.1 (by rw [hc]; rfl)
    rw [this]; rfl
theorem valF_fracD {r : Nat} (h : r < 1000000) : valF 0 (fracD r) = r := by
  have hv := valF_wholeD (1000000 + r)
  rw [wholeD_head h] at hv
  have hv2 : valF 1 (fracD r) = 1000000 + r := hv
  rw [valF_shift, fracD_length h] at hv2
  omega
theorem fracD_digs (r : Nat) : ∀ c ∈ fracD r, isDig c = true := fun c hc => wholeD_digs _ c (List.mem_of_mem_drop hc)
theorem strip0_spec (l : List UInt8) : ∃ k, l = strip0 l ++ List.replicate k 48 := by
  unfold strip0
  have h := List.takeWhile_append_dropWhile (p := (· == (48 : UInt8))) (l := l.reverse)
  refine ⟨(l.reverse.takeWhile (· == 48)).length, ?_⟩
  have h2 : l.reverse.takeWhile (· == (48 : UInt8)) = List.replicate (l.reverse.takeWhile (· == 48)).length 48 := by
    apply List.eq_replicate_of_mem
    intro b hb
    have : ∀ (m : List UInt8), ∀ b ∈ m.takeWhile (· == 48), b = 48 := by
      intro m
      induction m with
      | nil => intro b hb; cases hb
      | cons x m ih =>
        intro b hb
        rw [List.takeWhile_cons] at hb
        split at hb
        · rename_i hx
          rcases List.mem_cons.1 hb with rfl | hb
          · exact beq_iff_eq.1 hx
          · exact ih b hb
        · cases hb
    exact this _ b hb
  have h3 := congrArg List.reverse h
  rw [List.reverse_append, List.reverse_reverse] at h3
  rw [h2] at h3
  rw [List.reverse_replicate] at h3
  exact h3.symm
theorem strip0_digs {l : List UInt8} (h : ∀ c ∈ l, isDig c = true) : ∀ c ∈ strip0 l, isDig c = true := by
  obtain ⟨k, hk⟩ := strip0_spec l
  intro c hc
  exact h c (by rw [hk]; exact List.mem_append_left _ hc)
theorem strip0_take {l : List UInt8} (h : l.length = 6) : (strip0 l ++ six).take 6 = l := by
  obtain ⟨k, hk⟩ := strip0_spec l
  have hl : (strip0 l).length + k = 6 := by have := congrArg List.length hk; simp at this; omega
  rw [List.take_append, List.take_of_length_le (by omega)]
  have h6 : six.take (6 - (strip0 l).length) = List.replicate k 48 := by
    rw [show 6 - (strip0 l).length = k by omega]
    have : six = List.replicate 6 48 := rfl
    rw [this, List.take_replicate, Nat.min_eq_left (by omega)]
  rw [h6]; exact hk.symm
theorem takeWhile_all {p : UInt8 → Bool} {a b : List UInt8} (ha : ∀ c ∈ a, p c = true) (hb : ∀ c, b.head? = some c → p c = false) : (a ++ b).takeWhile p = a ∧ (a ++ b).dropWhile p = b := by
  induction a with
  | nil =>
    cases b with
    | nil => exact ⟨rfl, rfl⟩
    | cons c b => have := hb c rfl; simp [this]
  | cons x a ih =>
    have hx := ha x (by simp)
    have := ih (fun c hc => ha c (List.mem_cons_of_mem _ hc))
    simp [hx, this.1, this.2]
theorem bodyT_form (m : Nat) : ∃ a f : List UInt8, bodyT m = a ++ f ∧ (∀ c ∈ a, isDig c = true) ∧ (∀ c, f.head? = some c → c = 46) ∧ (fracOf f ++ six).take 6 = fracD (m % 1000000) ∧ valF 0 a = m / 1000000 ∧ bodyT m ≠ [] := by
  unfold bodyT
  by_cases h : m = 0
  · refine ⟨[48], [], ?_⟩
    rw [if_pos h, h]
    refine ⟨rfl, by simp [isDig], by simp, ?_, rfl, by simp⟩
    have : fracD (0 % 1000000) = [48, 48, 48, 48, 48, 48] := by
      unfold fracD
      simp [wholeD]
    rw [this]; rfl
  · rw [if_neg h]
    have hr : m % 1000000 < 1000000 := Nat.mod_lt _ (by omega)
    unfold body
    refine ⟨wholeD (m / 1000000), _, rfl, wholeD_digs _, ?_, ?_, valF_wholeD _, ?_⟩
    · intro c hc
      split at hc
      · cases hc
      · simpa using hc.symm
    · split
      · rename_i h0
        rw [h0]
        have : fracD 0 = [48, 48, 48, 48, 48, 48] := by
          unfold fracD
          simp [wholeD]
        rw [this]; rfl
      · have hd := strip0_digs (fracD_digs (m % 1000000))
        have ht := (takeWhile_all (p := isDig) (a := strip0 (fracD (m % 1000000))) (b := []) hd (by simp)).1
        rw [List.append_nil] at ht
        show ((if (46 : UInt8) = 46 then (strip0 (fracD (m % 1000000))).takeWhile isDig else []) ++ six).take 6 = _
        rw [if_pos rfl, ht]
        exact strip0_take (fracD_length hr)
    · intro hh
      split at hh
      · rename_i h0
        rw [List.append_nil] at hh
        have h2 : m / 1000000 ≠ 0 := by omega
        rw [wholeD_pos h2] at hh
        simp at hh
      · simp at hh
theorem numText_ne (n : Int) : textOf n ≠ [] := by
  unfold textOf
  obtain ⟨_, _, _, _, _, _, _, h⟩ := bodyT_form n.natAbs
  split
  · simp
  · exact h
theorem wholeD_len_le {n k : Nat} (h : n < 10 ^ k) : (wholeD n).length ≤ k := by
  induction k generalizing n with
  | zero => have : n = 0 := by simpa using h
            rw [this, wholeD_zero]; simp
  | succ k ih =>
    by_cases h0 : n = 0
    · rw [h0, wholeD_zero]; simp
    · rw [wholeD_pos h0, List.length_append]
      have := ih (n := n / 10) (by rw [Nat.pow_succ] at h; omega)
      simp; omega
theorem strip0_len (l : List UInt8) : (strip0 l).length ≤ l.length := by
  obtain ⟨k, hk⟩ := strip0_spec l
  have := congrArg List.length hk
  simp at this; omega
theorem textOf_len {n : Int} (h : -999999999999999999 ≤ n ∧ n ≤ 999999999999999999) : (textOf n).length ≤ 20 := by
  have hb : (bodyT n.natAbs).length ≤ 19 := by
    unfold bodyT
    split
    · simp
    · unfold body
      rw [List.length_append]
      have h1 := wholeD_len_le (n := n.natAbs / 1000000) (k := 12) (by omega)
      split
      · simp; omega
      · have h2 := strip0_len (fracD (n.natAbs % 1000000))
        rw [fracD_length (Nat.mod_lt _ (by omega))] at h2
        simp; omega
  unfold textOf
  split
  · simp; omega
  · omega
def byteLt : List UInt8 → List UInt8 → Bool
  | _, [] => false
  | [], _ :: _ => true
  | a :: l, b :: m => if a = b then byteLt l m else decide (a.toNat < b.toNat)
def beforeB (a b : List UInt8) : Bool :=
  if canonB a = true then (if canonB b = true then decide (numOf a < numOf b) else true) else (if canonB b = true then false else byteLt a b)
def sgnR (b : Bool) : List UInt8 → Bool × List UInt8
  | [] => (b, [])
  | c :: l => if isSign c = true then sgnR (b != (c == 45)) l else (b, c :: l)
def digR (n : Nat) : List UInt8 → Nat × List UInt8
  | [] => (n, [])
  | c :: l => if isDig c = true then digR (min (10 * n + dval c) 1000000000000) l else (n, c :: l)
def frR (n u : Nat) : List UInt8 → Nat
  | [] => n
  | c :: l => if isDig c = true then frR (n + dval c * u) (u / 10) l else n
def scR (n : Nat) : List UInt8 → Nat
  | [] => n
  | c :: l => if (999999999999999999 - dval c) / 10 < n then 999999999999999999 else scR (10 * n + dval c) l
def fracR (n : Nat) : List UInt8 → Nat
  | [] => n
  | c :: t => if c = 46 then frR n 100000 t else n
theorem sgnR_eq (b : Bool) (l : List UInt8) : sgnR b l = ((b != negB l), l.dropWhile isSign) := by
  induction l generalizing b with
  | nil => cases b <;> rfl
  | cons c l ih =>
    unfold sgnR
    by_cases h : isSign c = true
    · rw [if_pos h, ih, List.dropWhile_cons, if_pos h]
      refine Prod.ext ?_ rfl
      unfold negB
      rw [List.takeWhile_cons, if_pos h, List.count_cons]
      show ((b != (c == 45)) != _) = _
      by_cases hc : c = 45
      · subst hc
        rw [show ((45 : UInt8) == 45) = true from rfl, if_pos rfl]
        by_cases hp : List.count 45 (List.takeWhile isSign l) % 2 = 1
        · rw [decide_eq_true hp, decide_eq_false (by omega)]; cases b <;> rfl
        · rw [decide_eq_false hp, decide_eq_true (by omega)]; cases b <;> rfl
      · rw [show (c == 45) = false from beq_eq_false_iff_ne.2 hc, if_neg (by simp), Nat.add_zero]
        cases b <;> rfl
    · rw [if_neg h, List.dropWhile_cons, if_neg h]
      refine Prod.ext ?_ rfl
      unfold negB
      rw [List.takeWhile_cons, if_neg h]
      cases b <;> rfl
theorem valF_mono {m n : Nat} (h : m ≤ n) (l : List UInt8) : valF m l ≤ valF n l := by
  induction l generalizing m n with
  | nil => exact h
  | cons c l ih => exact ih (by omega)
theorem digR_eq (m : Nat) (l : List UInt8) : digR (min m 1000000000000) l = (min (valF m (l.takeWhile isDig)) 1000000000000, l.dropWhile isDig) := by
  induction l generalizing m with
  | nil => rfl
  | cons c l ih =>
    unfold digR
    by_cases h : isDig c = true
    · rw [if_pos h, List.dropWhile_cons, if_pos h, List.takeWhile_cons, if_pos h]
      have e : min (10 * min m 1000000000000 + dval c) 1000000000000 = min (10 * m + dval c) 1000000000000 := by omega
      rw [e, ih]; rfl
    · rw [if_neg h, List.dropWhile_cons, if_neg h, List.takeWhile_cons, if_neg h]; rfl
theorem frR_zero (n : Nat) (l : List UInt8) : frR n 0 l = n := by
  induction l generalizing n with
  | nil => rfl
  | cons c l ih =>
    unfold frR
    split
    · rw [ih, Nat.mul_zero, Nat.add_zero]
    · rfl
theorem valF_zeros (k : Nat) : valF 0 (List.replicate k 48) = 0 := by
  induction k with
  | zero => rfl
  | succ k ih => rw [List.replicate_succ]; exact ih
theorem take_pad (l : List UInt8) (k : Nat) : (l ++ List.replicate (k + 1) 48).take k = (l ++ List.replicate k 48).take k := by
  rw [List.replicate_succ', ← List.append_assoc, List.take_append_of_le_length (by simp)]
theorem frR_eq (k n : Nat) (l : List UInt8) : frR n (10 ^ k) l = n + valF 0 ((l.takeWhile isDig ++ List.replicate (k + 1) 48).take (k + 1)) := by
  induction l generalizing k n with
  | nil =>
    show n = n + _
    rw [List.takeWhile_nil, List.nil_append, List.take_of_length_le (by simp), valF_zeros]; omega
  | cons c l ih =>
    unfold frR
    by_cases h : isDig c = true
    · rw [if_pos h, List.takeWhile_cons, if_pos h, List.cons_append, List.take_succ_cons]
      show _ = n + valF (10 * 0 + dval c) _
      rw [valF_shift (10 * 0 + dval c)]
      have hl : (List.take k (List.takeWhile isDig l ++ List.replicate (k + 1) 48)).length = k := by simp; omega
      rw [hl, Nat.mul_zero, Nat.zero_add]
      cases k with
      | zero =>
        rw [show (10 : Nat) ^ 0 / 10 = 0 by decide, frR_zero]
        rfl
      | succ k =>
        rw [show (10 : Nat) ^ (k + 1) / 10 = 10 ^ k by rw [Nat.pow_succ]; omega, ih, take_pad, Nat.add_assoc]
    · rw [if_neg h, List.takeWhile_cons, if_neg h, List.nil_append, List.take_of_length_le (by simp), valF_zeros]; omega
theorem scR_eq {n : Nat} (h : n ≤ maxNum) (l : List UInt8) (hl : ∀ c ∈ l, isDig c = true) : scR n l = min (valF n l) maxNum := by
  have e : maxNum = 999999999999999999 := rfl
  induction l generalizing n with
  | nil => show n = min n _; omega
  | cons c l ih =>
    unfold scR
    have hd := hl c (by simp)
    unfold isDig at hd
    simp at hd
    have hv : dval c ≤ 9 := by unfold dval; omega
    show _ = min (valF (10 * n + dval c) l) _
    split
    · rename_i hg
      have hm := valF_mono (m := 1000000000000000000) (n := 10 * n + dval c) (by omega) l
      have hs := valF_shift 1000000000000000000 l
      have hp : 1 ≤ 10 ^ l.length := Nat.pow_pos (by omega)
      have : 1000000000000000000 ≤ 1000000000000000000 * 10 ^ l.length := Nat.le_mul_of_pos_right _ hp
      omega
    · exact ih (by omega) (fun x hx => hl x (List.mem_cons_of_mem _ hx))
theorem takeWhile_mem (p : UInt8 → Bool) (l : List UInt8) : ∀ c ∈ l.takeWhile p, p c = true := by
  induction l with
  | nil => intro c hc; cases hc
  | cons x l ih =>
    intro c hc
    rw [List.takeWhile_cons] at hc
    split at hc
    · rename_i hx
      rcases List.mem_cons.1 hc with rfl | hc
      · exact hx
      · exact ih c hc
    · cases hc
theorem fracOf_digs (l : List UInt8) : ∀ c ∈ fracOf l, isDig c = true := by
  cases l with
  | nil => intro c hc; cases hc
  | cons x l =>
    intro c hc
    have hc2 : c ∈ (if x = 46 then l.takeWhile isDig else []) := hc
    by_cases h : x = 46
    · rw [if_pos h] at hc2; exact takeWhile_mem _ _ c hc2
    · rw [if_neg h] at hc2; cases hc2
theorem numDigits_digs (l : List UInt8) : ∀ c ∈ numDigits l, isDig c = true := by
  intro c hc
  unfold numDigits at hc
  rcases List.mem_append.1 hc with hc | hc
  · exact takeWhile_mem _ _ c hc
  · rcases List.mem_append.1 (List.mem_of_mem_take hc) with hc | hc
    · exact fracOf_digs _ c hc
    · exact (by decide : ∀ c ∈ six, isDig c = true) c hc
theorem fracR_eq (n : Nat) (l : List UInt8) : fracR n l = n + valF 0 ((fracOf l ++ six).take 6) := by
  cases l with
  | nil => rfl
  | cons c l =>
    show (if c = 46 then frR n 100000 l else n) = n + valF 0 (((if c = 46 then l.takeWhile isDig else []) ++ six).take 6)
    by_cases h : c = 46
    · rw [if_pos h, if_pos h]; exact frR_eq 5 n l
    · rw [if_neg h, if_neg h]; rfl
def refNum (l : List UInt8) : Nat := min (fracR (min ((digR 0 (l.dropWhile isSign)).1 * 1000000) 1000000000000000000) (digR 0 (l.dropWhile isSign)).2) 999999999999999999
theorem refNum_eq (l : List UInt8) : refNum l = min (valF 0 (numDigits l)) maxNum := by
  have h1 := digR_eq 0 (l.dropWhile isSign)
  have e0 : min 0 1000000000000 = 0 := rfl
  rw [e0] at h1
  have e : maxNum = 999999999999999999 := rfl
  unfold refNum
  rw [h1, fracR_eq]
  unfold numDigits
  rw [valF_append, valF_shift (valF 0 _)]
  have h6 : ((fracOf ((l.dropWhile isSign).dropWhile isDig) ++ six).take 6).length = 6 := by simp [six]
  rw [h6]
  show min (min (min (valF 0 _) 1000000000000 * 1000000) 1000000000000000000 + valF 0 _) _ = _
  generalize valF 0 ((l.dropWhile isSign).takeWhile isDig) = W
  have hF : valF 0 ((fracOf ((l.dropWhile isSign).dropWhile isDig) ++ six).take 6) < 1000000 := by
    have : ∀ (l : List UInt8), (∀ c ∈ l, isDig c = true) → valF 0 l < 10 ^ l.length := by
      intro l
      induction l with
      | nil => intro _; exact Nat.one_pos
      | cons c l ih =>
        intro hh
        have h1 := ih (fun x hx => hh x (List.mem_cons_of_mem _ hx))
        have h2 := hh c (by simp)
        unfold isDig at h2
        simp at h2
        show valF (10 * 0 + dval c) l < _
        rw [valF_shift, List.length_cons, Nat.pow_succ]
        have h3 : dval c ≤ 9 := by unfold dval; omega
        have h4 : (10 * 0 + dval c) * 10 ^ l.length ≤ 9 * 10 ^ l.length := Nat.mul_le_mul_right _ (by omega)
        omega
    have := this _ (fun c hc => numDigits_digs l c (List.mem_append_right _ hc))
    rwa [h6] at this
  generalize valF 0 ((fracOf ((l.dropWhile isSign).dropWhile isDig) ++ six).take 6) = F at hF ⊢
  omega
theorem canonB_spec (l : List UInt8) : canonB l = (!l.isEmpty && (decide (l.length ≤ 21) && decide (textOf (numOf l) = l))) := by
  unfold canonB
  by_cases h : textOf (numOf l) = l
  · have h1 := textOf_len (numOf_range l)
    have h2 := numText_ne (numOf l)
    rw [h] at h1 h2
    rw [decide_eq_true h, decide_eq_true (by omega)]
    cases l with
    | nil => exact absurd rfl h2
    | cons c l => rfl
  · rw [decide_eq_false h, Bool.and_false, Bool.and_false]
theorem byteLt_irrefl (a : List UInt8) : byteLt a a = false := by
  induction a with
  | nil => rfl
  | cons c a ih => unfold byteLt; rw [if_pos rfl]; exact ih
theorem byteLt_trans {a b c : List UInt8} (h : byteLt a b = true) (k : byteLt b c = true) : byteLt a c = true := by
  induction a generalizing b c with
  | nil =>
    cases c with
    | nil => cases b <;> cases k
    | cons z c => rfl
  | cons x a ih =>
    cases b with
    | nil => cases h
    | cons y b =>
      cases c with
      | nil => cases k
      | cons z c =>
        unfold byteLt at h k ⊢
        by_cases h1 : x = y
        · subst h1
          rw [if_pos rfl] at h
          by_cases h2 : x = z
          · rw [if_pos h2] at k ⊢; exact ih h k
          · rw [if_neg h2] at k ⊢; exact k
        · rw [if_neg h1] at h
          have h' := of_decide_eq_true h
          by_cases h2 : y = z
          · subst h2; rw [if_neg h1]; exact h
          · rw [if_neg h2] at k
            have k' := of_decide_eq_true k
            have h3 : x ≠ z := fun e => by subst e; omega
            rw [if_neg h3]; exact decide_eq_true (by omega)
theorem byteLt_total {a b : List UInt8} (h : a ≠ b) : (byteLt a b || byteLt b a) = true := by
  induction a generalizing b with
  | nil => cases b with
    | nil => exact absurd rfl h
    | cons => rfl
  | cons x a ih =>
    cases b with
    | nil => rfl
    | cons y b =>
      unfold byteLt
      by_cases h1 : x = y
      · subst h1
        rw [if_pos rfl, if_pos rfl]
        exact ih (fun e => h (by rw [e]))
      · rw [if_neg h1, if_neg (Ne.symm h1)]
        have : x.toNat ≠ y.toNat := fun e => h1 (UInt8.toNat_inj.1 e)
        rcases Nat.lt_or_gt_of_ne this with g | g
        · rw [decide_eq_true g]; rfl
        · rw [decide_eq_true g]; exact Bool.or_true _
theorem canon_inj {a b : List UInt8} (ha : canonB a = true) (hb : canonB b = true) (h : numOf a = numOf b) : a = b := by
  have h1 := of_decide_eq_true ha
  have h2 := of_decide_eq_true hb
  rw [← h1, ← h2, h]
theorem before_irrefl (a : List UInt8) : beforeB a a = false := by
  unfold beforeB
  split
  · exact decide_eq_false (by omega)
  · exact byteLt_irrefl a
theorem before_trans {a b c : List UInt8} (h : beforeB a b = true) (k : beforeB b c = true) : beforeB a c = true := by
  unfold beforeB at *
  by_cases ha : canonB a = true <;> by_cases hb : canonB b = true <;> by_cases hc : canonB c = true <;> simp only [ha, hb, hc, if_true, if_false, Bool.false_eq_true] at h k ⊢
  · have := of_decide_eq_true h; have := of_decide_eq_true k; exact decide_eq_true (by omega)
  · exact byteLt_trans h k
theorem before_total {a b : List UInt8} (h : a ≠ b) : (beforeB a b || beforeB b a) = true := by
  unfold beforeB
  by_cases ha : canonB a = true <;> by_cases hb : canonB b = true <;> simp only [ha, hb, if_true, if_false, Bool.false_eq_true, Bool.or_true, Bool.true_or]
  · have : numOf a ≠ numOf b := fun e => h (canon_inj ha hb e)
    rcases Int.lt_or_gt_of_ne this with g | g
    · rw [decide_eq_true g]; rfl
    · rw [decide_eq_true g]; exact Bool.or_true _
  · exact byteLt_total h
theorem before_asymm {a b : List UInt8} (h : beforeB a b = true) : beforeB b a = false := by
  cases hb : beforeB b a with
  | false => rfl
  | true => have := before_trans h hb; rw [before_irrefl] at this; cases this
end
section
open Go.RowKit
set_option linter.unusedVariables false
theorem size_len (s : ByteArray) : s.size = s.data.toList.length := by rw [Array.length_toList]; rfl
theorem mk_list (l : List UInt8) : (⟨l.toArray⟩ : ByteArray).data.toList = l := by simp
theorem mk_of (s : ByteArray) : (⟨s.data.toList.toArray⟩ : ByteArray) = s := by simp
theorem extract_list (s : ByteArray) (a b : Nat) : (s.extract a b).data.toList = (s.data.toList.take b).drop a := by
  rw [ByteArray.data_extract, Array.toList_extract]
  simp [List.drop_take]
theorem ba_ext {a b : ByteArray} (h : a.data.toList = b.data.toList) : a = b := by
  rw [← mk_of a, ← mk_of b, h]
def StrPost (l : List UInt8) (w : World) (e : Ending) (w' : World) : Prop := ∃ r : ByteArray, r.data.toList = l ∧ e = .returned (.string r) ∧ Below w.heap.size w w'
theorem StrPost.of {l : List UInt8} {w w' : World} {e : Ending} (h : e = .returned (.string ⟨l.toArray⟩)) (hb : Below w.heap.size w w') : StrPost l w e w' := ⟨_, mk_list l, h, hb⟩
theorem ret_int {k : IntKind} {a b : Int} (h : a = b) : Ending.returned (.int k a) = .returned (.int k b) := by rw [h]
theorem app_list (a b : ByteArray) : (a ++ b).data.toList = a.data.toList ++ b.data.toList := by rw [ByteArray.data_append, Array.toList_append]
theorem drop_at (l : List UInt8) (k : Nat) (h : k < l.length) : l.drop k = l.getD k 0 :: l.drop (k + 1) := by
  rw [List.drop_eq_getElem_cons h, List.getD_eq_getElem?_getD, List.getElem?_eq_getElem h]; rfl
theorem idx_getD (s : ByteArray) (k : Nat) (h : k < s.size) : s.data.toList.getD k 0 = s[k] := by
  have hl : k < s.data.toList.length := by rw [← size_len]; exact h
  rw [List.getD_eq_getElem?_getD, List.getElem?_eq_getElem hl]; rfl
theorem drop_at' (s : ByteArray) (k : Nat) (h : k < s.size) : s.data.toList.drop k = s[k] :: s.data.toList.drop (k + 1) := by
  rw [drop_at _ k (by rw [← size_len]; exact h), idx_getD s k h]
theorem toList_beq' (x y : ByteArray) : (x.toList == y.toList) = decide (x = y) := by
  rw [Bool.eq_iff_iff]
  simp only [beq_iff_eq, decide_eq_true_eq]
  constructor
  · intro h
    rw [ByteArray.toList_eq, ByteArray.toList_eq] at h
    exact WideShapes.bytes_inj h
  · intro h; rw [h]
def BoolPost (b : Bool) (w : World) (e : Ending) (w' : World) : Prop := e = .returned (.bool b) ∧ Below w.heap.size w w'
theorem isEmpty_toList (s : ByteArray) : s.toList.isEmpty = s.data.toList.isEmpty := by rw [ByteArray.toList_eq]
end
section
open Go.RowKit Go.Shelf
set_option linter.unusedVariables false
theorem isDig_contains (c : UInt8) : ([48, 49, 50, 51, 52, 53, 54, 55, 56, 57] : List UInt8).contains c = isDig c := by
  have h : ∀ n : Fin 256, ([48, 49, 50, 51, 52, 53, 54, 55, 56, 57] : List UInt8).contains (UInt8.ofNat n.val) = isDig (UInt8.ofNat n.val) := by decide +kernel
  have := h ⟨c.toNat, UInt8.toNat_lt _⟩
  simpa using this
theorem isSign_contains (c : UInt8) : ([43, 45] : List UInt8).contains c = isSign c := by
  have h : ∀ n : Fin 256, ([43, 45] : List UInt8).contains (UInt8.ofNat n.val) = isSign (UInt8.ofNat n.val) := by decide +kernel
  have := h ⟨c.toNat, UInt8.toNat_lt _⟩
  simpa using this
theorem trimDig (l : List UInt8) : Lib.trimLeftS l [48, 49, 50, 51, 52, 53, 54, 55, 56, 57] = l.dropWhile isDig := by
  unfold Lib.trimLeftS
  congr 1
  funext c
  exact isDig_contains c
theorem trimSign (l : List UInt8) : Lib.trimLeftS l [43, 45] = l.dropWhile isSign := by
  unfold Lib.trimLeftS
  congr 1
  funext c
  exact isSign_contains c
theorem tw_dw_len (p : UInt8 → Bool) (l : List UInt8) : (l.takeWhile p).length + (l.dropWhile p).length = l.length := by
  have := congrArg List.length (List.takeWhile_append_dropWhile (p := p) (l := l))
  rw [List.length_append] at this
  exact this
theorem trimL_dig (s : ByteArray) (w : World) : Calls Tryz.prog 353 #[.string s, .string ⟨#[48, 49, 50, 51, 52, 53, 54, 55, 56, 57]⟩] w (StrPost (s.data.toList.dropWhile isDig) w) := by
  have h := Any.strings_TrimLeft_laid Tryz.lays161 (by kernel_rfl) s ⟨#[48, 49, 50, 51, 52, 53, 54, 55, 56, 57]⟩ w (by decide) (ascii_of_all (by decide))
  rw [trimDig] at h
  exact h.mono fun e w' ⟨h1, h2⟩ => .of h1 h2
theorem trimL_sign (s : ByteArray) (w : World) : Calls Tryz.prog 353 #[.string s, .string ⟨#[43, 45]⟩] w (StrPost (s.data.toList.dropWhile isSign) w) := by
  have h := Any.strings_TrimLeft_laid Tryz.lays161 (by kernel_rfl) s ⟨#[43, 45]⟩ w (by decide) (ascii_of_all (by decide))
  rw [trimSign] at h
  exact h.mono fun e w' ⟨h1, h2⟩ => .of h1 h2
def NatPost (n : Nat) (w : World) (e : Ending) (w' : World) : Prop := ∃ k : Nat, k = n ∧ e = .returned (.int .i64 (k : Int)) ∧ Below w.heap.size w w'
theorem digitsOf_any (s : ByteArray) (w : World) (hs : s.size ≤ 9223372036854775807) :
    Calls Tryz.prog 354 #[.string s] w (NatPost (s.data.toList.takeWhile isDig).length w) := by
  have H1 := Lib.hid (tw_dw_len isDig s.data.toList)
  have H2 := Lib.hid (size_len s)
  go_enter Tryz.func354, Tryz.ntmps354
  go_wp2_with fail
  refine (trimL_dig s w).mono ?_
  rintro e w1 ⟨r, hr, rfl, hb⟩
  have H3 := Lib.hid (size_len r)
  have H4 := Lib.hid hr
  clear hr
  have hle : r.size ≤ s.size := by have := H1.out; have := H2.out; have := H3.out; rw [H4.out] at this; omega
  go_wp2_with fail
  go_ret
  exact ⟨s.size - r.size, by have := H1.out; have := H2.out; have := H3.out; rw [H4.out] at this; omega, ret_int (by omega), hb⟩
theorem bytes_of_str (s : ByteArray) (w : World) : ∃ (wb : World) (cap : Nat), (∀ src dst e, Tryz.prog.underlying src = some .string → Tryz.prog.underlying dst = some (.slice e) → e = 5 → (convert src dst (.string s)).run Tryz.prog w = .ok (.slice (some ⟨w.heap.size, 0, none⟩) s.size cap) wb)
    ∧ (∀ j, j < s.size → wb.cell? ⟨w.heap.size, j, none⟩ = some (.int .u8 (s.data.toList.getD j 0).toNat)) ∧ Below w.heap.size w wb :=
  ⟨Lib.bytesWorld w 5 s, grownCap w s.size 0 5, fun src dst e hs hd he => by subst he; exact Lib.run_convert_string_bytes w src dst _ s hs hd Tryz.underlying5,
    Lib.bytesWorld_cell w 5 s, ⟨rfl, rfl, rfl, by rw [Lib.bytesWorld_size]; omega, fun i hi => Lib.bytesWorld_at_old w 5 s i hi⟩⟩
set_option maxHeartbeats 1000000 in
theorem scaled_any (s : ByteArray) (n : Nat) (w : World) (hn : n ≤ 999999999999999999) (hs : s.size ≤ 9223372036854775806) (hd : ∀ c ∈ s.data.toList, isDig c = true) :
    Calls Tryz.prog 356 #[.int .i64 n, .string s] w (NatPost (scR n s.data.toList) w) := by
  obtain ⟨wb, cap, hcv0, hcell, hb⟩ := bytes_of_str s w
  have hcv := hcv0 9 22 5 Tryz.underlying9 Tryz.underlying22 rfl
  have HC := Lib.hid hcell
  have HD := Lib.hid hd
  have HL := Lib.hid (size_len s)
  clear hcv0 hcell hd
  go_enter Tryz.func356, Tryz.ntmps356
  go_wp2_with fail
  go_loop [0, 6, 10] (fun a _ i => ∃ k m : Nat, k ≤ s.size ∧ m ≤ 999999999999999999 ∧ i = .int .i64 k ∧ a = .int .i64 m ∧ Hid (scR m (s.data.toList.drop k) = scR n s.data.toList)) (fun _ _ i => s.size - (intOf i).toNat)
  case atStart => exact ⟨0, n, Nat.zero_le _, hn, rfl, rfl, Lib.hid (by rw [List.drop_zero])⟩
  case round =>
    obtain ⟨k, m, hk, hm, rfl, rfl, hsc⟩ := hrel
    by_cases hlt : k < s.size
    · have hkl : k < s.data.toList.length := by have := HL.out; omega
      have hmem : s.data.toList.getD k 0 ∈ s.data.toList := by
        rw [List.getD_eq_getElem?_getD, List.getElem?_eq_getElem hkl]; exact List.getElem_mem hkl
      have hdg := HD.out _ hmem
      have hc := HC.out k hlt
      have hst := Lib.hid (drop_at s.data.toList k hkl)
      generalize s.data.toList.getD k 0 = c at *
      clear hmem
      have hsc2 := Lib.hid (show scR m (c :: s.data.toList.drop (k + 1)) = scR n s.data.toList by rw [← hst.out]; exact hsc.out)
      clear hst hsc
      have hv : 48 ≤ c.toNat ∧ c.toNat ≤ 57 := by unfold isDig at hdg; simp at hdg; exact hdg
      have hdv := Lib.hid (show dval c = c.toNat - 48 from rfl)
      clear hdg
      obtain ⟨h48, h57⟩ := hv
      generalize c.toNat = x at *
      by_cases hgt : (999999999999999999 - dval c) / 10 < m
      · have g1 : (999999999999999999 - ((x : Int) - 48)) / 10 < (m : Int) := by have := hdv.out; omega
        have HR := Lib.hid (show 999999999999999999 = scR n s.data.toList by rw [← hsc2.out]; unfold scR; rw [if_pos hgt])
        clear hgt
        go_wp2_with fail
        go_ret
        exact ⟨_, HR.out, rfl, hb⟩
      · have g1 : ¬ (999999999999999999 - ((x : Int) - 48)) / 10 < (m : Int) := by have := hdv.out; omega
        have HR := Lib.hid (show scR (10 * m + dval c) (s.data.toList.drop (k + 1)) = scR n s.data.toList by rw [← hsc2.out]; conv => rhs; unfold scR; rw [if_neg hgt])
        have g2 : 10 * m + (x - 48) ≤ 999999999999999999 := by have := hdv.out; omega
        clear hgt
        go_wp2_with fail
        go_round
        case rel => exact ⟨k + 1, 10 * m + (x - 48), by omega, g2, by go_num, by go_num, Lib.hid (by rw [← HR.out, hdv.out])⟩
        case measure => simp [intOf]; omega
    · have HR := Lib.hid (show m = scR n s.data.toList by rw [← hsc.out, List.drop_eq_nil_of_le (by have := HL.out; omega)]; rfl)
      go_wp2_with fail
      go_ret
      exact ⟨_, HR.out, rfl, hb⟩
end
section
open Go.RowKit Go.Shelf
set_option linter.unusedVariables false
def IntPost (n : Int) (w : World) (e : Ending) (w' : World) : Prop := ∃ k : Int, k = n ∧ e = .returned (.int .i64 k) ∧ Below w.heap.size w w'
theorem prefix_dot (l : List UInt8) : Lib.hasPrefix l [46] = true ∧ (∃ t, l = 46 :: t ∧ Lib.trimPrefix l [46] = t) ∨ Lib.hasPrefix l [46] = false ∧ fracOf l = [] ∧ Lib.trimPrefix l [46] = l := by
  cases l with
  | nil => right; exact ⟨rfl, rfl, rfl⟩
  | cons c t =>
    by_cases h : c = 46
    · left
      subst h
      have : Lib.hasPrefix (46 :: t) [46] = true := by simp [Lib.hasPrefix]
      refine ⟨this, t, rfl, ?_⟩
      unfold Lib.trimPrefix
      rw [if_pos this]; rfl
    · right
      have : Lib.hasPrefix (c :: t) [46] = false := by
        show ((46 : UInt8) == c && [].isPrefixOf t) = false
        rw [beq_eq_false_iff_ne.2 (Ne.symm h), Bool.false_and]
      refine ⟨this, by show (if c = 46 then _ else _) = _; rw [if_neg h], ?_⟩
      unfold Lib.trimPrefix
      rw [if_neg (by simp [this])]
theorem fracOf_dot (t : List UInt8) : fracOf (46 :: t) = t.takeWhile isDig := by
  show (if (46 : UInt8) = 46 then t.takeWhile isDig else []) = _
  rw [if_pos rfl]
def CutPost (l : List UInt8) (w : World) (e : Ending) (w' : World) : Prop := ∃ (r : ByteArray) (b : Bool), e = .returned (.tuple #[.string r, .bool b]) ∧ (b = true → ∃ t, l = 46 :: t ∧ r.data.toList = t) ∧ (b = false → fracOf l = []) ∧ w = w'
theorem cutPrefix_dot (s : ByteArray) (w : World) : Calls Tryz.prog 355 #[.string s, .string ⟨#[46]⟩] w (CutPost s.data.toList w) := by
  refine (Tryz.strings_CutPrefix s ⟨#[46]⟩ w).mono ?_
  rintro e w' ⟨rfl, hw⟩
  refine ⟨_, _, rfl, ?_, ?_, hw.symm⟩
  · intro hb
    rcases prefix_dot s.data.toList with ⟨h, t, h2, h3⟩ | ⟨h, _⟩
    · exact ⟨t, h2, by rw [mk_list]; exact h3⟩
    · have h' : Lib.hasPrefix s.data.toList [46] = true := hb
      rw [h] at h'; cases h'
  · intro hb
    rcases prefix_dot s.data.toList with ⟨h, _⟩ | ⟨h, h2, _⟩
    · have h' : Lib.hasPrefix s.data.toList [46] = false := hb
      rw [h] at h'; cases h'
    · exact h2
theorem count_minus (s : ByteArray) (w : World) : Calls Tryz.prog 313 #[.string s, .string ⟨#[45]⟩] w fun e w' => e = .returned (.int .i64 ((s.data.toList.count 45 : Nat) : Int)) ∧ w = w' :=
  (Tryz.strings_Count_one s 45 w).mono fun e w' ⟨h1, h2⟩ => ⟨h1, h2.symm⟩
set_option maxHeartbeats 2000000 in
theorem NumOf_any (s : ByteArray) (w : World) (hs : s.size ≤ 9223372036854775000) : Calls Tryz.prog 278 #[.string s] w (IntPost (numOf s.data.toList) w) := by
  have HT := Lib.hid (tw_dw_len isSign s.data.toList)
  have HL := Lib.hid (size_len s)
  go_enter Tryz.func278, Tryz.ntmps278
  go_wp2_with fail
  refine (trimL_sign s w).mono ?_
  rintro e w1 ⟨r, hr, rfl, hb1⟩
  have HR := Lib.hid hr
  clear hr
  have HRL := Lib.hid (size_len r)
  have hle : r.size ≤ s.size := by have := HT.out; have := HL.out; have := HRL.out; rw [HR.out] at this; omega
  have q1 : (0 : Int) ≤ (s.size : Int) - (r.size : Int) := by omega
  have q2 : ((s.size : Int) - (r.size : Int)).toNat = s.size - r.size := by omega
  go_wp2_with fail
  have HE := Lib.hid (show (s.extract 0 (s.size - r.size)).data.toList = s.data.toList.takeWhile isSign by
    rw [extract_list, List.drop_zero]
    have h1 := HT.out; have h2 := HL.out; have h3 := HRL.out
    rw [HR.out] at h3
    rw [show s.size - r.size = (s.data.toList.takeWhile isSign).length by omega]
    conv => lhs; rw [← List.takeWhile_append_dropWhile (p := isSign) (l := s.data.toList)]
    rw [List.take_left'] ; simp)
  generalize s.extract 0 (s.size - r.size) = sg at *
  refine (count_minus sg w1).mono ?_
  rintro e w2 ⟨rfl, rfl⟩
  have HN := Lib.hid (show negB s.data.toList = decide (sg.data.toList.count 45 % 2 = 1) by unfold negB; rw [HE.out])
  have hmb : sg.data.toList.count 45 ≤ 9223372036854775000 := by
    have h0 := List.count_le_length (a := (45 : UInt8)) (l := sg.data.toList)
    have h1 := HT.out; have h2 := HL.out
    rw [HE.out] at h0
    rw [HE.out]
    omega
  generalize sg.data.toList.count 45 = m at *
  clear HE q1 q2
  obtain ⟨b0, hsg, HB⟩ : ∃ b : Bool, (((m : Int) % 2 == 1) = b) ∧ Hid (negB s.data.toList = b) := by
    refine ⟨_, rfl, Lib.hid ?_⟩
    rw [HN.out, Bool.eq_iff_iff]
    simp only [decide_eq_true_eq, beq_iff_eq]
    omega
  clear HN
  go_wp2_with fail
  refine (digitsOf_any r w1 (by omega)).mono ?_
  rintro e w2 ⟨k, hk, rfl, hb2⟩
  have HK := Lib.hid hk
  clear hk
  have hkr : k ≤ r.size := by
    have h1 := tw_dw_len isDig r.data.toList
    have h2 := HRL.out
    have h3 := HK.out
    omega
  go_wp2_with fail
  have HW := Lib.hid (show (r.extract 0 k).data.toList = r.data.toList.takeWhile isDig by
    rw [extract_list, List.drop_zero, HK.out]
    conv => lhs; rw [← List.takeWhile_append_dropWhile (p := isDig) (l := r.data.toList)]
    rw [List.take_left'] ; simp)
  have HWD := Lib.hid (show (r.extract k r.size).data.toList = r.data.toList.dropWhile isDig by
    rw [extract_list, List.take_of_length_le (by have := HRL.out; omega), HK.out]
    conv => lhs; rw [← List.takeWhile_append_dropWhile (p := isDig) (l := r.data.toList)]
    rw [List.drop_left'] ; simp)
  have hwh : (r.extract 0 k).size ≤ 9223372036854775000 := by simp; omega
  have HDG := Lib.hid (show numDigits s.data.toList = (r.extract 0 k).data.toList ++ (fracOf (r.extract k r.size).data.toList ++ six).take 6 by
    unfold numDigits; rw [HW.out, HWD.out, HR.out])
  have hqs : (r.extract k r.size).size ≤ 9223372036854775000 := by simp; omega
  generalize r.extract 0 k = wh at *
  generalize r.extract k r.size = rk at *
  have HD := Lib.hid (numDigits_digs s.data.toList)
  refine (cutPrefix_dot _ _).mono ?_
  rintro e w3 ⟨q, b, rfl, hbt, hbf, rfl⟩
  have tail : ∀ (x : ByteArray) (w3 : World), Hid (x.data.toList = numDigits s.data.toList) → x.size ≤ 9223372036854775806 → Below w.heap.size w w3 →
      Calls Tryz.prog 356 #[.int .i64 0, .string x] w3 (fun e w' => ∃ z : Nat, Hid (z = min (valF 0 (numDigits s.data.toList)) maxNum) ∧ z ≤ 999999999999999999 ∧ e = .returned (.int .i64 (z : Int)) ∧ Below w.heap.size w w') := by
    intro x w3 hx hxs hb3
    refine (scaled_any x 0 w3 (by omega) hxs (by rw [hx.out]; exact HD.out)).mono ?_
    rintro e w4 ⟨z, hz, rfl, hb4⟩
    have hz2 : z = min (valF 0 (numDigits s.data.toList)) maxNum := by
      rw [hz, hx.out]; exact scR_eq (by decide) _ HD.out
    exact ⟨z, Lib.hid hz2, by rw [hz2]; exact Nat.min_le_right _ _, rfl, hb3.trans (hb4.mono (by have := hb3.size; omega))⟩
  have hbw2 : Below w.heap.size w w2 := hb1.trans (hb2.mono (by have := hb1.size; omega))
  clear hle HT HL HRL hkr hmb HK HW HWD HR hb1 hb2
  cases b
  · have HF := Lib.hid (hbf rfl)
    clear hbt hbf
    go_wp2_with fail
    have HX := Lib.hid (show (wh ++ (({ data := #[] } : ByteArray) ++ { data := #[48, 48, 48, 48, 48, 48] }).extract 0 6).data.toList = numDigits s.data.toList by
      rw [HDG.out, HF.out, ByteArray.data_append, Array.toList_append]; rfl)
    have hxs : (wh ++ (({ data := #[] } : ByteArray) ++ { data := #[48, 48, 48, 48, 48, 48] }).extract 0 6).size ≤ 9223372036854775806 := by
      rw [ByteArray.size_append]; simp; omega
    generalize wh ++ (({ data := #[] } : ByteArray) ++ { data := #[48, 48, 48, 48, 48, 48] }).extract 0 6 = x at *
    refine (tail x w2 HX hxs hbw2).mono ?_
    rintro e w4 ⟨z, hz, hzb, rfl, hb4⟩
    clear tail
    cases b0
    · go_wp2_with fail
      go_ret
      exact ⟨_, by unfold numOf; rw [HB.out, if_neg (by simp), hz.out], rfl, hb4⟩
    · go_wp2_with fail
      go_ret
      exact ⟨_, by unfold numOf; rw [HB.out, if_pos rfl, hz.out], rfl, hb4⟩
  · obtain ⟨t, ht, hq⟩ := hbt rfl
    have HF := Lib.hid (show fracOf rk.data.toList = q.data.toList.takeWhile isDig by rw [ht, hq]; exact fracOf_dot t)
    have hqs2 : q.size ≤ 9223372036854775000 := by
      have h1 := size_len q; have h2 := size_len rk
      rw [ht, List.length_cons] at h2
      rw [hq] at h1
      omega
    clear hbt hbf ht hq hqs
    go_wp2_with fail
    refine (digitsOf_any q w2 (by omega)).mono ?_
    rintro e w3 ⟨k2, hk2, rfl, hb3⟩
    have HK2 := Lib.hid hk2
    have hkq : k2 ≤ q.size := by
      have h1 := tw_dw_len isDig q.data.toList
      have h2 := size_len q
      omega
    clear hk2
    have HQ := Lib.hid (show (q.extract 0 k2).data.toList = q.data.toList.takeWhile isDig by
      rw [extract_list, List.drop_zero, HK2.out]
      conv => lhs; rw [← List.takeWhile_append_dropWhile (p := isDig) (l := q.data.toList)]
      rw [List.take_left'] ; simp)
    have hq6 : (q.extract 0 k2).size + 6 ≤ 9223372036854775806 := by simp; omega
    have hq7 : 6 ≤ (q.extract 0 k2).size + 6 := by omega
    go_wp2_with fail
    have HX := Lib.hid (show (wh ++ (q.extract 0 k2 ++ ({ data := #[48, 48, 48, 48, 48, 48] } : ByteArray)).extract 0 6).data.toList = numDigits s.data.toList by
      rw [HDG.out, HF.out, ByteArray.data_append, Array.toList_append, extract_list, List.drop_zero, ByteArray.data_append, Array.toList_append, HQ.out]; rfl)
    have hxs : (wh ++ (q.extract 0 k2 ++ ({ data := #[48, 48, 48, 48, 48, 48] } : ByteArray)).extract 0 6).size ≤ 9223372036854775806 := by
      rw [ByteArray.size_append, ByteArray.size_extract]; omega
    generalize wh ++ (q.extract 0 k2 ++ ({ data := #[48, 48, 48, 48, 48, 48] } : ByteArray)).extract 0 6 = x at *
    refine (tail x w3 HX hxs (hbw2.trans (hb3.mono (by have := hbw2.size; omega)))).mono ?_
    rintro e w4 ⟨z, hz, hzb, rfl, hb4⟩
    clear tail
    cases b0
    · go_wp2_with fail
      go_ret
      exact ⟨_, by unfold numOf; rw [HB.out, if_neg (by simp), hz.out], rfl, hb4⟩
    · go_wp2_with fail
      go_ret
      exact ⟨_, by unfold numOf; rw [HB.out, if_pos rfl, hz.out], rfl, hb4⟩
end
section
open Go.RowKit Go.Shelf
set_option linter.unusedVariables false
def Tab (w : World) : Prop := Lib.TabIs Tryz.prog w "internal/strconv.uint64pow10" .u64 Lib.pow10Tab
theorem tab_global : Tryz.prog.globalNamed "internal/strconv.uint64pow10" = some 0 := by kernel_rfl
theorem Tab.below {w w' : World} (h : Tab w) (hb : Below w.heap.size w w') : Tab w' := Lib.tabBelow_of_tabIs h w' hb
theorem fmt_any (m : Nat) (w : World) (hm : m ≤ 9223372036854775807) (ht : Tab w) : Calls Tryz.prog 119 #[.int .i64 (m : Int), .int .i64 10] w (StrPost (Lib.decDigits m) w) := by
  refine (Tryz.strconv_FormatInt_10 (m : Int) (by omega) (by omega) w ht).mono ?_
  rintro e w' ⟨rfl, k, os, rfl⟩
  refine .of ?_ (Lib.below_grow _ _ (Nat.le_refl _) _ _)
  rw [show Lib.itoa (m : Int) = Lib.decDigits m by unfold Lib.itoa; rw [if_neg (by omega)]; simp]
theorem fmt_frac (r : Nat) (w : World) (hm : r < 1000000) (ht : Tab w) : Calls Tryz.prog 119 #[.int .i64 (1000000 + (r : Int)), .int .i64 10] w (StrPost (Lib.decDigits (1000000 + r)) w) := by
  have h := fmt_any (1000000 + r) w (by omega) ht
  rw [show ((1000000 + r : Nat) : Int) = 1000000 + (r : Int) by omega] at h
  exact h
theorem trimR_zero (s : ByteArray) (w : World) (hs : s.size ≤ 9223372036854775807) : Calls Tryz.prog 352 #[.string s, .string ⟨#[48]⟩] w fun e w' => (∃ r : ByteArray, r.data.toList = strip0 s.data.toList ∧ e = .returned (.string r)) ∧ w = w' := by
  refine (Tryz.strings_TrimRight_one s 48 (by decide) w hs).mono ?_
  rintro e w' ⟨rfl, hw⟩
  exact ⟨⟨_, mk_list _, rfl⟩, hw.symm⟩
theorem decDigits_frac {r : Nat} (h : r < 1000000) : (Lib.decDigits (1000000 + r)).drop 1 = fracD r := by
  unfold fracD; rw [wholeD_dec (by omega)]
theorem dec_len (r : Nat) (h : r < 1000000) : (Lib.decDigits (1000000 + r)).length = 7 := by
  rw [← wholeD_dec (by omega)]; exact wholeD_length (k := 6) (by omega) (by omega)
theorem numText_zero (w : World) : Calls Tryz.prog 277 #[.int .i64 0] w (StrPost (textOf 0) w) := by
  go_enter Tryz.func277, Tryz.ntmps277
  go_wp2_with fail
  refine (isNum_any 0 true (by decide) _).mono ?_
  rintro e w1 ⟨rfl, rfl⟩
  go_wp2_with fail
  go_ret
  exact ⟨⟨#[48]⟩, by decide, rfl, Below.refl _ _⟩
set_option maxHeartbeats 1000000 in
theorem numText_pf (m : Nat) (w : World) (h0 : 0 < m) (hm : m ≤ 999999999999999999) (ht : Tab w) (hq : m < 1000000) (hr : 0 < m % 1000000) : Calls Tryz.prog 277 #[.int .i64 ((m : Int))] w (StrPost (textOf ((m : Int))) w) := by
  have HT := Lib.hid (show textOf ((m : Int)) = body m by unfold textOf bodyT; rw [if_neg (by omega), if_neg (by omega), show ((m : Int) : Int).natAbs = m by omega])
  have HB := Lib.hid (show body m = [] ++ 46 :: strip0 (fracD (m % 1000000)) by unfold body; rw [if_neg (by omega), show m / 1000000 = 0 by omega, wholeD_zero])
  have e0 : (((m : Int) : Int) == 0) = false := beq_eq_false_iff_ne.2 (by omega)
  have e1 : ¬ (m : Int) < 0 := by omega
  have e3 : decide ((1000000 : Int) ≤ (m : Int)) = false := decide_eq_false (by omega)
  have e6 : (m : Int) % 1000000 = ((m % 1000000 : Nat) : Int) := by omega
  have HQ : m / 1000000 ≤ 999999999999 := by omega
  have HR : m % 1000000 < 1000000 := by omega
  generalize hgr : m % 1000000 = r at *
  clear hgr
  have HIN := Lib.hid (show inR ((m : Int) : Int) (-999999999999999999) 999999999999999999 = true from inR_t (by omega) (by omega)); have hm2 : m ≤ 1000000000 := by omega
  clear HQ hq hm
  go_enter Tryz.func277, Tryz.ntmps277
  go_wp2_with fail
  refine (isNum_any _ true HIN.out _).mono ?_
  rintro e w1 ⟨rfl, rfl⟩
  go_wp2_with fail
  refine (fmt_frac r w HR ht).mono ?_
  rintro e w2 ⟨f, hf, rfl, hb2⟩
  have HF := Lib.hid hf; clear hf
  have fs := Lib.hid (show f.size = 7 by rw [size_len f, HF.out]; exact dec_len r HR)
  have fs1 : 1 ≤ f.size := by have := fs.out; omega
  have fs2 : f.size ≤ 9223372036854775807 := by have := fs.out; omega
  go_wp2_with fail
  refine (trimR_zero _ _ (by rw [ByteArray.size_extract]; omega)).mono ?_
  rintro e w3 ⟨⟨t, htl, rfl⟩, rfl⟩
  have HTT := Lib.hid htl; clear htl
  have ts : t.size ≤ 1000 := by have h1 := size_len t; rw [HTT.out] at h1; have := strip0_len (f.extract 1 f.size).data.toList; rw [← size_len (f.extract 1 f.size), ByteArray.size_extract] at this; have := fs.out; omega
  go_wp2_with fail
  go_ret
  refine ⟨_, ?_, rfl, hb2⟩
  rw [HT.out, HB.out, app_list, app_list, HTT.out, extract_list, HF.out, List.take_of_length_le (by rw [fs.out]; exact Nat.le_of_eq (dec_len r HR)), decDigits_frac HR]
  try rfl
set_option maxHeartbeats 1000000 in
theorem numText_pw (m : Nat) (w : World) (h0 : 0 < m) (hm : m ≤ 999999999999999999) (ht : Tab w) (hq : 1000000 ≤ m) (hr : m % 1000000 = 0) : Calls Tryz.prog 277 #[.int .i64 ((m : Int))] w (StrPost (textOf ((m : Int))) w) := by
  have HT := Lib.hid (show textOf ((m : Int)) = body m by unfold textOf bodyT; rw [if_neg (by omega), if_neg (by omega), show ((m : Int) : Int).natAbs = m by omega])
  have HB := Lib.hid (show body m = wholeD (m / 1000000) by unfold body; rw [if_pos hr]; exact List.append_nil _)
  have e0 : (((m : Int) : Int) == 0) = false := beq_eq_false_iff_ne.2 (by omega)
  have e1 : ¬ (m : Int) < 0 := by omega
  have e3 : (1000000 : Int) ≤ (m : Int) := by omega
  have e5 : (m : Int) / 1000000 = ((m / 1000000 : Nat) : Int) := by omega
  have e6 : (m : Int) % 1000000 = ((m % 1000000 : Nat) : Int) := by omega
  have HQ : m / 1000000 ≤ 999999999999 := by omega
  have HR : m % 1000000 < 1000000 := by omega
  have HD := Lib.hid (show Lib.decDigits (m / 1000000) = wholeD (m / 1000000) from (wholeD_dec (by omega)).symm)
  generalize m / 1000000 = q at *
  generalize hgr : m % 1000000 = r at *
  clear hgr
  go_enter Tryz.func277, Tryz.ntmps277
  go_wp2_with fail
  refine (isNum_any _ true (inR_t (by omega) (by omega)) _).mono ?_
  rintro e w1 ⟨rfl, rfl⟩
  go_wp2_with fail
  refine (fmt_any q w (by omega) ht).mono ?_
  rintro e w1 ⟨d, hd, rfl, hb1⟩
  have HDD := Lib.hid hd; clear hd
  have ds : d.size ≤ 1000 := by have h1 := size_len d; rw [HDD.out, HD.out] at h1; have := wholeD_len_le (n := q) (k := 12) (by omega); omega
  have ht1 := Tab.below ht hb1
  go_wp2_with fail
  go_ret
  refine ⟨_, ?_, rfl, hb1⟩
  rw [HT.out, HB.out, app_list, HDD.out, HD.out]
  try rfl
set_option maxHeartbeats 1000000 in
theorem numText_pwf (m : Nat) (w : World) (h0 : 0 < m) (hm : m ≤ 999999999999999999) (ht : Tab w) (hq : 1000000 ≤ m) (hr : 0 < m % 1000000) : Calls Tryz.prog 277 #[.int .i64 ((m : Int))] w (StrPost (textOf ((m : Int))) w) := by
  have HT := Lib.hid (show textOf ((m : Int)) = body m by unfold textOf bodyT; rw [if_neg (by omega), if_neg (by omega), show ((m : Int) : Int).natAbs = m by omega])
  have HB := Lib.hid (show body m = wholeD (m / 1000000) ++ 46 :: strip0 (fracD (m % 1000000)) by unfold body; rw [if_neg (by omega)])
  have e0 : (((m : Int) : Int) == 0) = false := beq_eq_false_iff_ne.2 (by omega)
  have e1 : ¬ (m : Int) < 0 := by omega
  have e3 : (1000000 : Int) ≤ (m : Int) := by omega
  have e5 : (m : Int) / 1000000 = ((m / 1000000 : Nat) : Int) := by omega
  have e6 : (m : Int) % 1000000 = ((m % 1000000 : Nat) : Int) := by omega
  have HQ : m / 1000000 ≤ 999999999999 := by omega
  have HR : m % 1000000 < 1000000 := by omega
  have HD := Lib.hid (show Lib.decDigits (m / 1000000) = wholeD (m / 1000000) from (wholeD_dec (by omega)).symm)
  generalize m / 1000000 = q at *
  generalize hgr : m % 1000000 = r at *
  clear hgr
  go_enter Tryz.func277, Tryz.ntmps277
  go_wp2_with fail
  refine (isNum_any _ true (inR_t (by omega) (by omega)) _).mono ?_
  rintro e w1 ⟨rfl, rfl⟩
  go_wp2_with fail
  refine (fmt_any q w (by omega) ht).mono ?_
  rintro e w1 ⟨d, hd, rfl, hb1⟩
  have HDD := Lib.hid hd; clear hd
  have ds : d.size ≤ 1000 := by have h1 := size_len d; rw [HDD.out, HD.out] at h1; have := wholeD_len_le (n := q) (k := 12) (by omega); omega
  have ht1 := Tab.below ht hb1
  go_wp2_with fail
  refine (fmt_frac r w1 HR ht1).mono ?_
  rintro e w2 ⟨f, hf, rfl, hb2⟩
  have HF := Lib.hid hf; clear hf
  have fs := Lib.hid (show f.size = 7 by rw [size_len f, HF.out]; exact dec_len r HR)
  have fs1 : 1 ≤ f.size := by have := fs.out; omega
  have fs2 : f.size ≤ 9223372036854775807 := by have := fs.out; omega
  go_wp2_with fail
  refine (trimR_zero _ _ (by rw [ByteArray.size_extract]; omega)).mono ?_
  rintro e w3 ⟨⟨t, htl, rfl⟩, rfl⟩
  have HTT := Lib.hid htl; clear htl
  have ts : t.size ≤ 1000 := by have h1 := size_len t; rw [HTT.out] at h1; have := strip0_len (f.extract 1 f.size).data.toList; rw [← size_len (f.extract 1 f.size), ByteArray.size_extract] at this; have := fs.out; omega
  go_wp2_with fail
  go_ret
  refine ⟨_, ?_, rfl, hb1.trans (hb2.mono (by have := hb1.size; omega))⟩
  rw [HT.out, HB.out, app_list, app_list, app_list, HTT.out, extract_list, HF.out, List.take_of_length_le (by rw [fs.out]; exact Nat.le_of_eq (dec_len r HR)), decDigits_frac HR, HDD.out, HD.out]
  try rfl
set_option maxHeartbeats 1000000 in
theorem numText_nf (m : Nat) (w : World) (h0 : 0 < m) (hm : m ≤ 999999999999999999) (ht : Tab w) (hq : m < 1000000) (hr : 0 < m % 1000000) : Calls Tryz.prog 277 #[.int .i64 (-(m : Int))] w (StrPost (textOf (-(m : Int))) w) := by
  have HT := Lib.hid (show textOf (-(m : Int)) = 45 :: body m by unfold textOf bodyT; rw [if_pos (by omega), if_neg (by omega), show (-(m : Int) : Int).natAbs = m by omega])
  have HB := Lib.hid (show body m = [] ++ 46 :: strip0 (fracD (m % 1000000)) by unfold body; rw [if_neg (by omega), show m / 1000000 = 0 by omega, wholeD_zero])
  have e0 : ((-(m : Int) : Int) == 0) = false := beq_eq_false_iff_ne.2 (by omega)
  have e1 : (-(m : Int)) < 0 := by omega
  have e2 : - -(m : Int) = (m : Int) := by omega
  have e3 : decide ((1000000 : Int) ≤ (m : Int)) = false := decide_eq_false (by omega)
  have e6 : (m : Int) % 1000000 = ((m % 1000000 : Nat) : Int) := by omega
  have HQ : m / 1000000 ≤ 999999999999 := by omega
  have HR : m % 1000000 < 1000000 := by omega
  generalize hgr : m % 1000000 = r at *
  clear hgr
  have HIN := Lib.hid (show inR (-(m : Int) : Int) (-999999999999999999) 999999999999999999 = true from inR_t (by omega) (by omega)); have hm2 : m ≤ 1000000000 := by omega
  clear HQ hq hm
  go_enter Tryz.func277, Tryz.ntmps277
  go_wp2_with fail
  refine (isNum_any _ true HIN.out _).mono ?_
  rintro e w1 ⟨rfl, rfl⟩
  go_wp2_with fail
  refine (fmt_frac r w HR ht).mono ?_
  rintro e w2 ⟨f, hf, rfl, hb2⟩
  have HF := Lib.hid hf; clear hf
  have fs := Lib.hid (show f.size = 7 by rw [size_len f, HF.out]; exact dec_len r HR)
  have fs1 : 1 ≤ f.size := by have := fs.out; omega
  have fs2 : f.size ≤ 9223372036854775807 := by have := fs.out; omega
  go_wp2_with fail
  refine (trimR_zero _ _ (by rw [ByteArray.size_extract]; omega)).mono ?_
  rintro e w3 ⟨⟨t, htl, rfl⟩, rfl⟩
  have HTT := Lib.hid htl; clear htl
  have ts : t.size ≤ 1000 := by have h1 := size_len t; rw [HTT.out] at h1; have := strip0_len (f.extract 1 f.size).data.toList; rw [← size_len (f.extract 1 f.size), ByteArray.size_extract] at this; have := fs.out; omega
  go_wp2_with fail
  go_ret
  refine ⟨_, ?_, rfl, hb2⟩
  rw [HT.out, HB.out, app_list, app_list, HTT.out, extract_list, HF.out, List.take_of_length_le (by rw [fs.out]; exact Nat.le_of_eq (dec_len r HR)), decDigits_frac HR]
  try rfl
set_option maxHeartbeats 1000000 in
theorem numText_nw (m : Nat) (w : World) (h0 : 0 < m) (hm : m ≤ 999999999999999999) (ht : Tab w) (hq : 1000000 ≤ m) (hr : m % 1000000 = 0) : Calls Tryz.prog 277 #[.int .i64 (-(m : Int))] w (StrPost (textOf (-(m : Int))) w) := by
  have HT := Lib.hid (show textOf (-(m : Int)) = 45 :: body m by unfold textOf bodyT; rw [if_pos (by omega), if_neg (by omega), show (-(m : Int) : Int).natAbs = m by omega])
  have HB := Lib.hid (show body m = wholeD (m / 1000000) by unfold body; rw [if_pos hr]; exact List.append_nil _)
  have e0 : ((-(m : Int) : Int) == 0) = false := beq_eq_false_iff_ne.2 (by omega)
  have e1 : (-(m : Int)) < 0 := by omega
  have e2 : - -(m : Int) = (m : Int) := by omega
  have e3 : (1000000 : Int) ≤ (m : Int) := by omega
  have e5 : (m : Int) / 1000000 = ((m / 1000000 : Nat) : Int) := by omega
  have e6 : (m : Int) % 1000000 = ((m % 1000000 : Nat) : Int) := by omega
  have HQ : m / 1000000 ≤ 999999999999 := by omega
  have HR : m % 1000000 < 1000000 := by omega
  have HD := Lib.hid (show Lib.decDigits (m / 1000000) = wholeD (m / 1000000) from (wholeD_dec (by omega)).symm)
  generalize m / 1000000 = q at *
  generalize hgr : m % 1000000 = r at *
  clear hgr
  go_enter Tryz.func277, Tryz.ntmps277
  go_wp2_with fail
  refine (isNum_any _ true (inR_t (by omega) (by omega)) _).mono ?_
  rintro e w1 ⟨rfl, rfl⟩
  go_wp2_with fail
  refine (fmt_any q w (by omega) ht).mono ?_
  rintro e w1 ⟨d, hd, rfl, hb1⟩
  have HDD := Lib.hid hd; clear hd
  have ds : d.size ≤ 1000 := by have h1 := size_len d; rw [HDD.out, HD.out] at h1; have := wholeD_len_le (n := q) (k := 12) (by omega); omega
  have ht1 := Tab.below ht hb1
  go_wp2_with fail
  go_ret
  refine ⟨_, ?_, rfl, hb1⟩
  rw [HT.out, HB.out, app_list, HDD.out, HD.out]
  try rfl
set_option maxHeartbeats 1000000 in
theorem numText_nwf (m : Nat) (w : World) (h0 : 0 < m) (hm : m ≤ 999999999999999999) (ht : Tab w) (hq : 1000000 ≤ m) (hr : 0 < m % 1000000) : Calls Tryz.prog 277 #[.int .i64 (-(m : Int))] w (StrPost (textOf (-(m : Int))) w) := by
  have HT := Lib.hid (show textOf (-(m : Int)) = 45 :: body m by unfold textOf bodyT; rw [if_pos (by omega), if_neg (by omega), show (-(m : Int) : Int).natAbs = m by omega])
  have HB := Lib.hid (show body m = wholeD (m / 1000000) ++ 46 :: strip0 (fracD (m % 1000000)) by unfold body; rw [if_neg (by omega)])
  have e0 : ((-(m : Int) : Int) == 0) = false := beq_eq_false_iff_ne.2 (by omega)
  have e1 : (-(m : Int)) < 0 := by omega
  have e2 : - -(m : Int) = (m : Int) := by omega
  have e3 : (1000000 : Int) ≤ (m : Int) := by omega
  have e5 : (m : Int) / 1000000 = ((m / 1000000 : Nat) : Int) := by omega
  have e6 : (m : Int) % 1000000 = ((m % 1000000 : Nat) : Int) := by omega
  have HQ : m / 1000000 ≤ 999999999999 := by omega
  have HR : m % 1000000 < 1000000 := by omega
  have HD := Lib.hid (show Lib.decDigits (m / 1000000) = wholeD (m / 1000000) from (wholeD_dec (by omega)).symm)
  generalize m / 1000000 = q at *
  generalize hgr : m % 1000000 = r at *
  clear hgr
  go_enter Tryz.func277, Tryz.ntmps277
  go_wp2_with fail
  refine (isNum_any _ true (inR_t (by omega) (by omega)) _).mono ?_
  rintro e w1 ⟨rfl, rfl⟩
  go_wp2_with fail
  refine (fmt_any q w (by omega) ht).mono ?_
  rintro e w1 ⟨d, hd, rfl, hb1⟩
  have HDD := Lib.hid hd; clear hd
  have ds : d.size ≤ 1000 := by have h1 := size_len d; rw [HDD.out, HD.out] at h1; have := wholeD_len_le (n := q) (k := 12) (by omega); omega
  have ht1 := Tab.below ht hb1
  go_wp2_with fail
  refine (fmt_frac r w1 HR ht1).mono ?_
  rintro e w2 ⟨f, hf, rfl, hb2⟩
  have HF := Lib.hid hf; clear hf
  have fs := Lib.hid (show f.size = 7 by rw [size_len f, HF.out]; exact dec_len r HR)
  have fs1 : 1 ≤ f.size := by have := fs.out; omega
  have fs2 : f.size ≤ 9223372036854775807 := by have := fs.out; omega
  go_wp2_with fail
  refine (trimR_zero _ _ (by rw [ByteArray.size_extract]; omega)).mono ?_
  rintro e w3 ⟨⟨t, htl, rfl⟩, rfl⟩
  have HTT := Lib.hid htl; clear htl
  have ts : t.size ≤ 1000 := by have h1 := size_len t; rw [HTT.out] at h1; have := strip0_len (f.extract 1 f.size).data.toList; rw [← size_len (f.extract 1 f.size), ByteArray.size_extract] at this; have := fs.out; omega
  go_wp2_with fail
  go_ret
  refine ⟨_, ?_, rfl, hb1.trans (hb2.mono (by have := hb1.size; omega))⟩
  rw [HT.out, HB.out, app_list, app_list, app_list, HTT.out, extract_list, HF.out, List.take_of_length_le (by rw [fs.out]; exact Nat.le_of_eq (dec_len r HR)), decDigits_frac HR, HDD.out, HD.out]
  try rfl
theorem NumText_any (n : Int) (w : World) (hn : IsNum n) (ht : Tab w) : Calls Tryz.prog 277 #[.int .i64 n] w (StrPost (textOf n) w) := by
  obtain ⟨h1, h2⟩ := hn
  rcases Int.lt_trichotomy n 0 with h | h | h
  · obtain ⟨m, rfl⟩ : ∃ m : Nat, n = -(m : Int) := ⟨n.natAbs, by omega⟩
    by_cases hq : 1000000 ≤ m <;> by_cases hr : m % 1000000 = 0
    · exact numText_nw m w (by omega) (by omega) ht hq hr
    · exact numText_nwf m w (by omega) (by omega) ht hq (by omega)
    · omega
    · exact numText_nf m w (by omega) (by omega) ht (by omega) (by omega)
  · subst h; exact numText_zero w
  · obtain ⟨m, rfl⟩ : ∃ m : Nat, n = (m : Int) := ⟨n.natAbs, by omega⟩
    by_cases hq : 1000000 ≤ m <;> by_cases hr : m % 1000000 = 0
    · exact numText_pw m w (by omega) (by omega) ht hq hr
    · exact numText_pwf m w (by omega) (by omega) ht hq (by omega)
    · omega
    · exact numText_pf m w (by omega) (by omega) ht (by omega) (by omega)
theorem IsCanon_any (s : ByteArray) (w : World) (hs : s.size ≤ 9223372036854775000) (ht : Tab w) : Calls Tryz.prog 409 #[.string s] w (BoolPost (canonB s.data.toList) w) := by
  go_enter Tryz.func409, Tryz.ntmps409
  go_wp2_with fail
  refine (NumOf_any s w hs).mono ?_
  rintro e w1 ⟨k, hk, rfl, hb1⟩
  have HK := Lib.hid hk; clear hk
  have ht1 := Tab.below ht hb1
  have hin : IsNum k := by rw [HK.out]; exact numOf_range _
  go_wp2_with fail
  refine (NumText_any k w1 hin ht1).mono ?_
  rintro e w2 ⟨t, htt, rfl, hb2⟩
  have HTT := Lib.hid htt; clear htt
  by_cases heq : t = s
  · have HC := Lib.hid (show canonB s.data.toList = true by unfold canonB; rw [← HK.out, ← HTT.out, heq]; exact decide_eq_true rfl)
    subst heq
    go_wp2_with fail
    go_ret
    exact ⟨by rw [HC.out]; simp, hb1.trans (hb2.mono (by have := hb1.size; omega))⟩
  · have HC := Lib.hid (show canonB s.data.toList = false by unfold canonB; rw [← HK.out, ← HTT.out]; exact decide_eq_false (fun e => heq (ba_ext e)))
    have hq : (t.toList == s.toList) = false := by rw [toList_beq']; exact decide_eq_false heq
    go_wp2_with fail
    go_ret
    exact ⟨by rw [HC.out]; rfl, hb1.trans (hb2.mono (by have := hb1.size; omega))⟩
end
section
open Go.RowKit Go.Shelf
set_option linter.unusedVariables false
theorem byteLt_eq : ∀ x y : List UInt8, Op.bytesLess x y = byteLt x y
  | _, [] => by unfold byteLt Op.bytesLess; rfl
  | [], _ :: _ => rfl
  | a :: x, b :: y => by
    show (decide (a < b) || (a == b && Op.bytesLess x y)) = (if a = b then byteLt x y else decide (a.toNat < b.toNat))
    by_cases h : a = b
    · subst h
      rw [if_pos rfl, byteLt_eq x y]
      have : decide (a < a) = false := decide_eq_false (by rw [UInt8.lt_iff_toNat_lt]; omega)
      rw [this]; simp
    · rw [if_neg h, beq_eq_false_iff_ne.2 h, Bool.false_and, Bool.or_false]
      exact decide_eq_decide.2 UInt8.lt_iff_toNat_lt
theorem less_eq (a b : ByteArray) : Op.bytesLess a.toList b.toList = byteLt a.data.toList b.data.toList := by
  rw [byteLt_eq, ByteArray.toList_eq, ByteArray.toList_eq]
def cmpV (lt gt : Bool) : Int := if lt = true then -1 else if gt = true then 1 else 0
def collV (a b : List UInt8) : Int :=
  if canonB a = true then (if canonB b = true then cmpV (decide (numOf a < numOf b)) (decide (numOf b < numOf a)) else -1) else (if canonB b = true then 1 else cmpV (byteLt a b) (byteLt b a))
theorem collV_neg (a b : List UInt8) : decide (collV a b < 0) = beforeB a b := by
  have hc : ∀ x y : Bool, decide (cmpV x y < 0) = x := by decide
  unfold collV beforeB
  by_cases h1 : canonB a = true <;> by_cases h2 : canonB b = true
  · rw [if_pos h1, if_pos h2, if_pos h1, if_pos h2]; exact hc _ _
  · rw [if_pos h1, if_neg h2, if_pos h1, if_neg h2]; rfl
  · rw [if_neg h1, if_pos h2, if_neg h1, if_pos h2]; rfl
  · rw [if_neg h1, if_neg h2, if_neg h1, if_neg h2]; exact hc _ _
theorem cmpInt_any (a b : Int) (w : World) : Calls Tryz.prog 297 #[.int .i64 a, .int .i64 b] w fun e w' => e = .returned (.int .i64 (cmpV (decide (a < b)) (decide (b < a)))) ∧ w = w' := by
  generalize hg : cmpV (decide (a < b)) (decide (b < a)) = c
  have HG := Lib.hid hg; clear hg
  by_cases h1 : a < b
  · have HV := Lib.hid (show c = -1 by rw [← HG.out, decide_eq_true h1]; rfl)
    go_enter Tryz.func297, Tryz.ntmps297
    go_wp2
    go_ret
    exact ⟨by rw [HV.out]; rfl, rfl⟩
  · by_cases h2 : b < a
    · have HV := Lib.hid (show c = 1 by rw [← HG.out, decide_eq_false h1, decide_eq_true h2]; rfl)
      go_enter Tryz.func297, Tryz.ntmps297
      go_wp2
      go_ret
      exact ⟨by rw [HV.out]; rfl, rfl⟩
    · have HV := Lib.hid (show c = 0 by rw [← HG.out, decide_eq_false h1, decide_eq_false h2]; rfl)
      go_enter Tryz.func297, Tryz.ntmps297
      go_wp2
      go_ret
      exact ⟨by rw [HV.out]; rfl, rfl⟩
theorem cmpStr_any (a b : ByteArray) (w : World) : Calls Tryz.prog 252 #[.string a, .string b] w fun e w' => e = .returned (.int .i64 (cmpV (byteLt a.data.toList b.data.toList) (byteLt b.data.toList a.data.toList))) ∧ w = w' := by
  have q0 : ∀ x : ByteArray, (x.toList == x.toList) = true := fun x => beq_self_eq_true _
  by_cases h1 : byteLt a.data.toList b.data.toList = true
  · have HV := Lib.hid (show cmpV (byteLt a.data.toList b.data.toList) (byteLt b.data.toList a.data.toList) = -1 by rw [h1]; rfl)
    have q1 : Op.bytesLess a.toList b.toList = true := by rw [less_eq]; exact h1
    clear h1
    go_enter Tryz.func252, Tryz.ntmps252
    go_wp2
    go_ret
    exact ⟨by rw [HV.out]; rfl, rfl⟩
  · have h1 : byteLt a.data.toList b.data.toList = false := by simpa using h1
    have q1 : Op.bytesLess a.toList b.toList = false := by rw [less_eq]; exact h1
    by_cases h2 : a = b
    · subst h2
      have HV := Lib.hid (show cmpV (byteLt a.data.toList a.data.toList) (byteLt a.data.toList a.data.toList) = 0 by rw [h1]; rfl)
      clear h1
      go_enter Tryz.func252, Tryz.ntmps252
      go_wp2
      go_ret
      exact ⟨by rw [HV.out]; rfl, rfl⟩
    · have HV := Lib.hid (show cmpV (byteLt a.data.toList b.data.toList) (byteLt b.data.toList a.data.toList) = 1 by
        have h3 := byteLt_total (a := a.data.toList) (b := b.data.toList) (fun e => h2 (ba_ext e))
        rw [h1, Bool.false_or] at h3
        rw [h1, h3]; rfl)
      have q2 : (a.toList == b.toList) = false := by rw [toList_beq']; exact decide_eq_false h2
      clear h1 h2
      go_enter Tryz.func252, Tryz.ntmps252
      go_wp2
      go_ret
      exact ⟨by rw [HV.out]; rfl, rfl⟩
def IntPostB (n : Int) (w : World) (e : Ending) (w' : World) : Prop := e = .returned (.int .i64 n) ∧ Below w.heap.size w w'
set_option maxHeartbeats 1000000 in
theorem collate_any (a b : ByteArray) (w : World) (ha : a.size ≤ 9223372036854775000) (hb : b.size ≤ 9223372036854775000) (ht : Tab w) : Calls Tryz.prog 339 #[.string a, .string b] w (IntPostB (collV a.data.toList b.data.toList) w) := by
  go_enter Tryz.func339, Tryz.ntmps339
  go_wp2_with fail
  refine (IsCanon_any a w ha ht).mono ?_
  rintro e w1 ⟨rfl, hb1⟩
  have ht1 := Tab.below ht hb1
  go_wp2_with fail
  refine (IsCanon_any b w1 hb ht1).mono ?_
  rintro e w2 ⟨rfl, hb2⟩
  have ht2 := Tab.below ht1 hb2
  have hw2 : Below w.heap.size w w2 := hb1.trans (hb2.mono (by have := hb1.size; omega))
  cases hA : canonB a.data.toList <;> cases hB : canonB b.data.toList
  · have HV := Lib.hid (show collV a.data.toList b.data.toList = cmpV (byteLt a.data.toList b.data.toList) (byteLt b.data.toList a.data.toList) by unfold collV; rw [hA, hB]; rfl)
    clear hA hB
    go_wp2_with fail
    refine (cmpStr_any a b w2).mono ?_
    rintro e w3 ⟨rfl, rfl⟩
    go_wp2_with fail
    go_ret
    exact ⟨by rw [HV.out]; rfl, hw2⟩
  · have HV := Lib.hid (show collV a.data.toList b.data.toList = 1 by unfold collV; rw [hA, hB]; rfl)
    clear hA hB
    go_wp2_with fail
    go_ret
    exact ⟨by rw [HV.out]; rfl, hw2⟩
  · have HV := Lib.hid (show collV a.data.toList b.data.toList = -1 by unfold collV; rw [hA, hB]; rfl)
    clear hA hB
    go_wp2_with fail
    go_ret
    exact ⟨by rw [HV.out]; rfl, hw2⟩
  · have HV := Lib.hid (show collV a.data.toList b.data.toList = cmpV (decide (numOf a.data.toList < numOf b.data.toList)) (decide (numOf b.data.toList < numOf a.data.toList)) by unfold collV; rw [hA, hB]; rfl)
    clear hA hB
    go_wp2_with fail
    refine (NumOf_any a w2 ha).mono ?_
    rintro e w3 ⟨x, hx, rfl, hb3⟩
    have HX := Lib.hid hx; clear hx
    go_wp2_with fail
    refine (NumOf_any b w3 hb).mono ?_
    rintro e w4 ⟨y, hy, rfl, hb4⟩
    have HY := Lib.hid hy; clear hy
    go_wp2_with fail
    refine (cmpInt_any x y w4).mono ?_
    rintro e w5 ⟨rfl, rfl⟩
    go_wp2_with fail
    go_ret
    refine ⟨by rw [HV.out, ← HX.out, ← HY.out]; rfl, ?_⟩
    have hw3 := hw2.trans (hb3.mono (by have := hw2.size; omega))
    exact hw3.trans (hb4.mono (by have := hw3.size; omega))
end
section
open Go.RowKit
set_option linter.unusedVariables false
def RowAt (w : World) (B : Nat) (a : Option Addr) (cs : List Value) : Prop :=
  0 < cs.length → ∃ b off, a = some ⟨b, off, none⟩ ∧ b < B ∧ ∀ i v, cs[i]? = some v → w.cell? ⟨b, off + i, none⟩ = some v
section
variable {w w' : World} {B B' : Nat} {a : Option Addr} {cs : List Value}
theorem RowAt.keep (h : RowAt w B a cs) (hk : ∀ b o, b < B → w'.cell? ⟨b, o, none⟩ = w.cell? ⟨b, o, none⟩) : RowAt w' B a cs := by
  intro hl
  obtain ⟨b, off, rfl, hb, hc⟩ := h hl
  exact ⟨b, off, rfl, hb, fun i v hv => by rw [hk b _ hb]; exact hc i v hv⟩
theorem RowAt.more (h : RowAt w B a cs) (hB : B ≤ B') : RowAt w B' a cs := by
  intro hl
  obtain ⟨b, off, rfl, hb, hc⟩ := h hl
  exact ⟨b, off, rfl, by omega, hc⟩
theorem RowAt.below (h : RowAt w B a cs) (hb : Below B w w') : RowAt w' B a cs := h.keep fun b o hlt => hb.cell (p := ⟨b, o, none⟩) hlt
theorem RowAt.alloc (h : RowAt w B a cs) (hB : B ≤ w.heap.size) (o : Obj) : RowAt (w.alloc o) B a cs := h.below ((Below.refl _ _).alloc hB o)
theorem RowAt.drewN (h : RowAt w B a cs) (n : Nat) : RowAt (w.drewN n) B a cs := h
theorem RowAt.nil : RowAt w B a [] := fun h => absurd h (by simp)
end
def strCells (xs : List ByteArray) : List Value := xs.map Value.string
theorem strCells_length (xs : List ByteArray) : (strCells xs).length = xs.length := by simp [strCells]
theorem strCells_at {xs : List ByteArray} {i : Nat} (h : i < xs.length) : (strCells xs)[i]? = some (.string xs[i]) := by
  simp [strCells, List.getElem?_map, List.getElem?_eq_getElem h]
theorem RowAt.str {w : World} {B : Nat} {a : Option Addr} {xs : List ByteArray} (h : RowAt w B a (strCells xs)) (hne : 0 < xs.length) :
    ∃ b off, a = some ⟨b, off, none⟩ ∧ b < B ∧ ∀ i (hi : i < xs.length), w.cell? ⟨b, off + i, none⟩ = some (.string xs[i]) := by
  obtain ⟨b, off, ha, hb, hc⟩ := h (by rw [strCells_length]; exact hne)
  exact ⟨b, off, ha, hb, fun i hi => hc i _ (strCells_at hi)⟩
def Filled (w : World) (g : Nat) (t : TypeId) (n k : Nat) (cs : List Value) : Prop := ∃ cur : Array Value, Blk w g t cur ∧ cur.size = n ∧ cur.toList.take k = cs.take k
theorem Filled.new (w : World) (t : TypeId) (cur : Array Value) (n : Nat) (cs : List Value) (h : cur.size = n) : Filled (w.alloc (.cells cur t)) w.heap.size t n 0 cs := ⟨cur, Blk.new _ _ _, h, by simp⟩
theorem Filled.cell {w : World} {g : Nat} {t : TypeId} {n k : Nat} {cs : List Value} (h : Filled w g t n k cs) {i : Nat} (hi : i < n) : ∃ v, w.cell? ⟨g, i, none⟩ = some v := by
  obtain ⟨cur, hb, hs, _⟩ := h
  exact ⟨cur[i], by rw [hb.cell i, Array.getElem?_eq_getElem (by omega)]⟩
theorem Filled.frozen {w : World} {g : Nat} {t : TypeId} {n k : Nat} {cs : List Value} (h : Filled w g t n k cs) (i : Nat) : w.frozen? ⟨g, i, none⟩ = false := by
  obtain ⟨cur, hb, hs, _⟩ := h
  exact hb.frozen i
theorem Filled.put {w : World} {g : Nat} {t : TypeId} {n k : Nat} {cs : List Value} (h : Filled w g t n k cs) {v : Value} (hk : k < n) (hv : cs[k]? = some v) : Filled (w.setCell ⟨g, k, none⟩ v) g t n (k + 1) cs := by
  obtain ⟨cur, hb, hs, ht⟩ := h
  refine ⟨_, hb.set_ k v, by simpa using hs, ?_⟩
  have hlen : k < cs.length := (List.getElem?_eq_some_iff.1 hv).1
  have hval : cs[k] = v := (List.getElem?_eq_some_iff.1 hv).2
  rw [Array.toList_setIfInBounds, List.take_succ_eq_append_getElem (by simpa using by omega), List.take_succ_eq_append_getElem hlen, List.take_set_of_le (Nat.le_refl _), ht, List.getElem_set_self, hval]
theorem Filled.own {w : World} {g base : Nat} {t : TypeId} {n size : Nat} {cs : List Value} (h : Filled w g t (n * size) (n * size) cs) (hc : cs.length = n * size) (hb : base ≤ g) (hm : n ≤ maxLen) :
    w.ownsRow base t size (.slice (some ⟨g, 0, none⟩) n n) n cs := by
  obtain ⟨cur, hbk, hs, ht⟩ := h
  exact ⟨hc, .inr ⟨g, n, cur, rfl, hb, hbk, Nat.le_refl _, hm, hs, by rw [ht, List.take_of_length_le (by omega)]⟩⟩
theorem Filled.keep {w w' : World} {g : Nat} {t : TypeId} {n k : Nat} {cs : List Value} (h : Filled w g t n k cs) (hk : w'.heap[g]? = w.heap[g]?) : Filled w' g t n k cs := by
  obtain ⟨cur, hb, hs, ht⟩ := h
  exact ⟨cur, hk.trans hb, hs, ht⟩
structure Touched (lo hi : Nat) (w w' : World) : Prop where
  os : w'.os = w.os
  tape : w'.tape = w.tape
  output : w'.output = w.output
  size : w'.heap.size = w.heap.size
  block : ∀ k, (k < lo ∨ hi ≤ k) → w'.heap[k]? = w.heap[k]?
section
variable {lo hi : Nat} {w w' : World}
theorem Touched.refl (lo hi : Nat) (w : World) : Touched lo hi w w := ⟨rfl, rfl, rfl, rfl, fun _ _ => rfl⟩
theorem Touched.setCell (h : Touched lo hi w w') {p : Addr} (h1 : lo ≤ p.block) (h2 : p.block < hi) (u : Value) : Touched lo hi w (w'.setCell p u) :=
  ⟨h.os, h.tape, h.output, by simpa [World.setCell] using h.size, fun k hk => (Below.heap_setCell w' p u k (by omega)).trans (h.block k hk)⟩
theorem Touched.below {z : World} {B : Nat} (h : Touched lo hi w w') (hb : Below B z w) (hB : B ≤ lo) : Below B z w' :=
  hb.trans ⟨h.os, h.tape, h.output, Nat.le_of_eq h.size.symm, fun k hk => h.block k (.inl (by omega))⟩
theorem Touched.own {base : Nat} {e : TypeId} {size : Nat} {v : Value} {n : Nat} {xs : List Value} (h : Touched lo hi w w') (ho : w.ownsRow base e size v n xs) (hb : hi ≤ base) : w'.ownsRow base e size v n xs := by
  refine ⟨ho.1, ?_⟩
  rcases ho.2 with hn | ⟨g, cap, cur, rfl, hbg, hgg, rest⟩
  · exact .inl hn
  · exact .inr ⟨g, cap, cur, rfl, hbg, (h.block g (.inr (by omega))).trans hgg, rest⟩
end
end
section
open Go.RowKit
set_option linter.unusedVariables false
end
section
open Go.RowKit
set_option linter.unusedVariables false
end
section
open Go.RowKit
set_option linter.unusedVariables false
def letterB (n : Nat) : Bool := (decide (97 ≤ n) && decide (n ≤ 122)) || (decide (65 ≤ n) && decide (n ≤ 90))
def digitB (n : Nat) : Bool := decide (48 ≤ n) && decide (n ≤ 57)
def nameAt (s : ByteArray) (i : Nat) : Bool := letterB (s.get! i).toNat || (if i = 0 then decide ((s.get! i).toNat = 37) else digitB (s.get! i).toNat)
def nameB (s : ByteArray) : Bool := (decide (1 ≤ s.size) && decide (s.size ≤ 8)) && (List.range s.size).all (nameAt s)
theorem get_at (s : ByteArray) (i : Nat) (h : i < s.size) : s.get! i = s[i] := by
  show s.data.get!Internal i = _
  simp [Array.get!Internal, h]
  rfl
theorem name_no {s : ByteArray} {k : Nat} (h : k < s.size) (hn : nameAt s k = false) : nameB s = false := by
  unfold nameB
  rw [show (List.range s.size).all (nameAt s) = false from List.all_eq_false.2 ⟨k, List.mem_range.2 h, by simp [hn]⟩, Bool.and_false]
theorem range_all_succ (p : Nat → Bool) (k : Nat) : (List.range (k + 1)).all p = ((List.range k).all p && p k) := by
  rw [List.range_succ, List.all_append]
  simp
theorem isLetter_any (n : Nat) (r : Bool) (hr : letterB n = r) (w : World) : Calls Tryz.prog 254 #[.int .u8 (n : Int)] w fun e w' => e = .returned (.bool r) ∧ w = w' := by
  subst hr
  by_cases a : 97 ≤ n
  · have q1 : decide ((97 : Int) ≤ (n : Int)) = true := decide_eq_true (by omega)
    by_cases b : n ≤ 122
    · have q2 : decide ((n : Int) ≤ 122) = true := decide_eq_true (by omega)
      have F := Lib.hid (show letterB n = true by simp [letterB, a, b])
      clear a b
      go_enter Tryz.func254, Tryz.ntmps254
      go_wp2_with fail
      go_ret
      exact ⟨by rw [F.out]; rfl, rfl⟩
    · have q2 : decide ((n : Int) ≤ 122) = false := decide_eq_false (by omega)
      have q3 : decide ((65 : Int) ≤ (n : Int)) = true := decide_eq_true (by omega)
      have q4 : decide ((n : Int) ≤ 90) = false := decide_eq_false (by omega)
      have F := Lib.hid (show letterB n = false by unfold letterB; rw [decide_eq_false b, decide_eq_false (show ¬ n ≤ 90 by omega)]; simp)
      clear a b
      go_enter Tryz.func254, Tryz.ntmps254
      go_wp2_with fail
      go_ret
      exact ⟨by rw [F.out]; rfl, rfl⟩
  · have q1 : decide ((97 : Int) ≤ (n : Int)) = false := decide_eq_false (by omega)
    by_cases c : 65 ≤ n
    · have q3 : decide ((65 : Int) ≤ (n : Int)) = true := decide_eq_true (by omega)
      by_cases d : n ≤ 90
      · have q4 : decide ((n : Int) ≤ 90) = true := decide_eq_true (by omega)
        have F := Lib.hid (show letterB n = true by simp [letterB, c, d])
        clear a c d
        go_enter Tryz.func254, Tryz.ntmps254
        go_wp2_with fail
        go_ret
        exact ⟨by rw [F.out]; rfl, rfl⟩
      · have q4 : decide ((n : Int) ≤ 90) = false := decide_eq_false (by omega)
        have F := Lib.hid (show letterB n = false by simp [letterB, a, d])
        clear a c d
        go_enter Tryz.func254, Tryz.ntmps254
        go_wp2_with fail
        go_ret
        exact ⟨by rw [F.out]; rfl, rfl⟩
    · have q3 : decide ((65 : Int) ≤ (n : Int)) = false := decide_eq_false (by omega)
      have F := Lib.hid (show letterB n = false by simp [letterB, a, c])
      clear a c
      go_enter Tryz.func254, Tryz.ntmps254
      go_wp2_with fail
      go_ret
      exact ⟨by rw [F.out]; rfl, rfl⟩
theorem isDigit_any (n : Nat) (r : Bool) (hr : digitB n = r) (w : World) : Calls Tryz.prog 255 #[.int .u8 (n : Int)] w fun e w' => e = .returned (.bool r) ∧ w = w' := by
  subst hr
  by_cases a : 48 ≤ n
  · have q1 : decide ((48 : Int) ≤ (n : Int)) = true := decide_eq_true (by omega)
    by_cases b : n ≤ 57
    · have q2 : decide ((n : Int) ≤ 57) = true := decide_eq_true (by omega)
      have F := Lib.hid (show digitB n = true by simp [digitB, a, b])
      clear a b
      go_enter Tryz.func255, Tryz.ntmps255
      go_wp2_with fail
      go_ret
      exact ⟨by rw [F.out]; rfl, rfl⟩
    · have q2 : decide ((n : Int) ≤ 57) = false := decide_eq_false (by omega)
      have F := Lib.hid (show digitB n = false by simp [digitB, b])
      clear a b
      go_enter Tryz.func255, Tryz.ntmps255
      go_wp2_with fail
      go_ret
      exact ⟨by rw [F.out]; rfl, rfl⟩
  · have q1 : decide ((48 : Int) ≤ (n : Int)) = false := decide_eq_false (by omega)
    have F := Lib.hid (show digitB n = false by simp [digitB, a])
    clear a
    go_enter Tryz.func255, Tryz.ntmps255
    go_wp2_with fail
    go_ret
    exact ⟨by rw [F.out]; rfl, rfl⟩
theorem l02Letter_any (n : Nat) (r : Bool) (hr : letterB n = r) (w : World) : Calls Tryz.prog 325 #[.int .u8 (n : Int)] w fun e w' => e = .returned (.bool r) ∧ w = w' := by
  subst hr
  by_cases a : 97 ≤ n
  · have q1 : decide ((97 : Int) ≤ (n : Int)) = true := decide_eq_true (by omega)
    by_cases b : n ≤ 122
    · have q2 : decide ((n : Int) ≤ 122) = true := decide_eq_true (by omega)
      have F := Lib.hid (show letterB n = true by simp [letterB, a, b])
      clear a b
      go_enter Tryz.func325, Tryz.ntmps325
      go_wp2_with fail
      go_ret
      exact ⟨by rw [F.out]; rfl, rfl⟩
    · have q2 : decide ((n : Int) ≤ 122) = false := decide_eq_false (by omega)
      have q3 : decide ((65 : Int) ≤ (n : Int)) = true := decide_eq_true (by omega)
      have q4 : decide ((n : Int) ≤ 90) = false := decide_eq_false (by omega)
      have F := Lib.hid (show letterB n = false by unfold letterB; rw [decide_eq_false b, decide_eq_false (show ¬ n ≤ 90 by omega)]; simp)
      clear a b
      go_enter Tryz.func325, Tryz.ntmps325
      go_wp2_with fail
      go_ret
      exact ⟨by rw [F.out]; rfl, rfl⟩
  · have q1 : decide ((97 : Int) ≤ (n : Int)) = false := decide_eq_false (by omega)
    by_cases c : 65 ≤ n
    · have q3 : decide ((65 : Int) ≤ (n : Int)) = true := decide_eq_true (by omega)
      by_cases d : n ≤ 90
      · have q4 : decide ((n : Int) ≤ 90) = true := decide_eq_true (by omega)
        have F := Lib.hid (show letterB n = true by simp [letterB, c, d])
        clear a c d
        go_enter Tryz.func325, Tryz.ntmps325
        go_wp2_with fail
        go_ret
        exact ⟨by rw [F.out]; rfl, rfl⟩
      · have q4 : decide ((n : Int) ≤ 90) = false := decide_eq_false (by omega)
        have F := Lib.hid (show letterB n = false by simp [letterB, a, d])
        clear a c d
        go_enter Tryz.func325, Tryz.ntmps325
        go_wp2_with fail
        go_ret
        exact ⟨by rw [F.out]; rfl, rfl⟩
    · have q3 : decide ((65 : Int) ≤ (n : Int)) = false := decide_eq_false (by omega)
      have F := Lib.hid (show letterB n = false by simp [letterB, a, c])
      clear a c
      go_enter Tryz.func325, Tryz.ntmps325
      go_wp2_with fail
      go_ret
      exact ⟨by rw [F.out]; rfl, rfl⟩
theorem l01Digit_any (n : Nat) (r : Bool) (hr : digitB n = r) (w : World) : Calls Tryz.prog 326 #[.int .u8 (n : Int)] w fun e w' => e = .returned (.bool r) ∧ w = w' := by
  subst hr
  by_cases a : 48 ≤ n
  · have q1 : decide ((48 : Int) ≤ (n : Int)) = true := decide_eq_true (by omega)
    by_cases b : n ≤ 57
    · have q2 : decide ((n : Int) ≤ 57) = true := decide_eq_true (by omega)
      have F := Lib.hid (show digitB n = true by simp [digitB, a, b])
      clear a b
      go_enter Tryz.func326, Tryz.ntmps326
      go_wp2_with fail
      go_ret
      exact ⟨by rw [F.out]; rfl, rfl⟩
    · have q2 : decide ((n : Int) ≤ 57) = false := decide_eq_false (by omega)
      have F := Lib.hid (show digitB n = false by simp [digitB, b])
      clear a b
      go_enter Tryz.func326, Tryz.ntmps326
      go_wp2_with fail
      go_ret
      exact ⟨by rw [F.out]; rfl, rfl⟩
  · have q1 : decide ((48 : Int) ≤ (n : Int)) = false := decide_eq_false (by omega)
    have F := Lib.hid (show digitB n = false by simp [digitB, a])
    clear a
    go_enter Tryz.func326, Tryz.ntmps326
    go_wp2_with fail
    go_ret
    exact ⟨by rw [F.out]; rfl, rfl⟩
set_option maxHeartbeats 2000000 in
theorem nameOk_any (s : ByteArray) (r : Bool) (hr : nameB s = r) (w : World) (hs : s.size ≤ 9223372036854775807) :
    Calls Tryz.prog 156 #[.string s] w fun e w' => e = .returned (.bool r) ∧ w = w' := by
  subst hr
  go_enter Tryz.func156, Tryz.ntmps156
  go_wp2_with fail
  go_loop [2, 3] (fun _ i => ∃ k : Nat, k ≤ s.size ∧ i = .int .i64 k ∧ Hid ((List.range k).all (nameAt s) = true)) (fun _ i => s.size - (intOf i).toNat)
  case atStart => exact ⟨0, by omega, rfl, Lib.hid (by simp)⟩
  case round =>
    obtain ⟨k, hk, rfl, hall⟩ := hrel
    by_cases hlt : k < s.size
    · have hno := Lib.hid (name_no (s := s) hlt)
      have hstep := Lib.hid (range_all_succ (nameAt s) k)
      have hb : s[k].toNat < 256 := UInt8.toNat_lt _
      have hat := Lib.hid (show nameAt s k = (letterB s[k].toNat || (if k = 0 then decide (s[k].toNat = 37) else digitB s[k].toNat)) by unfold nameAt; rw [get_at s k hlt])
      go_wp2_with fail
      cases hL : letterB s[k].toNat
      · have HL := Lib.hid hL
        refine (isLetter_any s[k].toNat false hL _).mono ?_
        rintro e w1 ⟨rfl, rfl⟩
        clear hL
        by_cases h0 : k = 0
        · subst h0
          by_cases h37 : s[0].toNat = 37
          · have q1 : ((s[0].toNat : Int) == 37) = true := beq_iff_eq.2 (by omega)
            have HA := Lib.hid (show nameAt s 0 = true by rw [hat.out, HL.out]; simp [h37])
            clear h37
            go_wp2_with fail
            go_round
            case rel => exact ⟨0 + 1, by omega, by go_num, Lib.hid (by rw [hstep.out, hall.out, HA.out]; rfl)⟩
            case measure => simp [intOf]; omega
          · have q1 : ((s[0].toNat : Int) == 37) = false := beq_eq_false_iff_ne.2 (by omega)
            have HA := Lib.hid (hno.out (by rw [hat.out, HL.out]; simp [h37]))
            clear h37
            go_wp2_with fail
            go_ret
            exact ⟨by rw [HA.out]; rfl, rfl⟩
        · have q0 : ((k : Int) == 0) = false := beq_eq_false_iff_ne.2 (by omega)
          cases hD : digitB s[k].toNat
          · have HA := Lib.hid (hno.out (by rw [hat.out, HL.out, if_neg h0, hD]; rfl))
            go_wp2_with fail
            refine (isDigit_any s[k].toNat false hD _).mono ?_
            rintro e w1 ⟨rfl, rfl⟩
            go_wp2_with fail
            go_ret
            exact ⟨by rw [HA.out]; rfl, rfl⟩
          · have HA := Lib.hid (show nameAt s k = true by rw [hat.out, HL.out, if_neg h0, hD]; rfl)
            go_wp2_with fail
            refine (isDigit_any s[k].toNat true hD _).mono ?_
            rintro e w1 ⟨rfl, rfl⟩
            go_wp2_with fail
            go_round
            case rel => exact ⟨k + 1, by omega, by go_num, Lib.hid (by rw [hstep.out, hall.out, HA.out]; rfl)⟩
            case measure => simp [intOf]; omega
      · have HA := Lib.hid (show nameAt s k = true by rw [hat.out, hL]; rfl)
        refine (isLetter_any s[k].toNat true hL _).mono ?_
        rintro e w1 ⟨rfl, rfl⟩
        go_wp2_with fail
        go_round
        case rel => exact ⟨k + 1, by omega, by go_num, Lib.hid (by rw [hstep.out, hall.out, HA.out]; rfl)⟩
        case measure => simp [intOf]; omega
    · have HN := Lib.hid (show nameB s = (decide (1 ≤ s.size) && decide (s.size ≤ 8)) by
        have := hall.out
        rw [show k = s.size by omega] at this
        unfold nameB
        rw [this, Bool.and_true])
      by_cases h1 : 1 ≤ s.size
      · have q1 : decide ((1 : Int) ≤ (s.size : Int)) = true := decide_eq_true (by omega)
        by_cases h8 : s.size ≤ 8
        · have q2 : decide ((s.size : Int) ≤ 8) = true := decide_eq_true (by omega)
          go_wp2_with fail
          go_ret
          exact ⟨by rw [HN.out, decide_eq_true h1, decide_eq_true h8]; rfl, rfl⟩
        · have q2 : decide ((s.size : Int) ≤ 8) = false := decide_eq_false (by omega)
          go_wp2_with fail
          go_ret
          exact ⟨by rw [HN.out, decide_eq_true h1, decide_eq_false h8]; rfl, rfl⟩
      · have q1 : decide ((1 : Int) ≤ (s.size : Int)) = false := decide_eq_false (by omega)
        go_wp2_with fail
        go_ret
        exact ⟨by rw [HN.out, decide_eq_false h1]; rfl, rfl⟩
set_option maxHeartbeats 2000000 in
theorem l02Name_any (s : ByteArray) (r : Bool) (hr : nameB s = r) (w : World) (hs : s.size ≤ 9223372036854775807) :
    Calls Tryz.prog 230 #[.string s] w fun e w' => e = .returned (.bool r) ∧ w = w' := by
  subst hr
  by_cases h1 : s.size < 1
  · have q1 : decide ((s.size : Int) < 1) = true := decide_eq_true (by omega)
    have HN := Lib.hid (show nameB s = false by unfold nameB; rw [decide_eq_false (show ¬ 1 ≤ s.size by omega)]; rfl)
    go_enter Tryz.func230, Tryz.ntmps230
    go_wp2_with fail
    go_ret
    exact ⟨by rw [HN.out]; rfl, rfl⟩
  have q1 : decide ((s.size : Int) < 1) = false := decide_eq_false (by omega)
  by_cases h8 : 8 < s.size
  · have q2 : decide ((8 : Int) < (s.size : Int)) = true := decide_eq_true (by omega)
    have HN := Lib.hid (show nameB s = false by unfold nameB; rw [decide_eq_false (show ¬ s.size ≤ 8 by omega), Bool.and_false]; rfl)
    go_enter Tryz.func230, Tryz.ntmps230
    go_wp2_with fail
    go_ret
    exact ⟨by rw [HN.out]; rfl, rfl⟩
  have q2 : decide ((8 : Int) < (s.size : Int)) = false := decide_eq_false (by omega)
  have hlt0 : 0 < s.size := by omega
  have HZ := Lib.hid (show nameB s = (List.range s.size).all (nameAt s) by unfold nameB; rw [decide_eq_true (show 1 ≤ s.size by omega), decide_eq_true (show s.size ≤ 8 by omega)]; rfl)
  have hno0 := Lib.hid (name_no (s := s) hlt0)
  have hat0 := Lib.hid (show nameAt s 0 = (letterB s[0].toNat || decide (s[0].toNat = 37)) by unfold nameAt; rw [get_at s 0 hlt0]; rfl)
  have hb0 : s[0].toNat < 256 := UInt8.toNat_lt _
  by_cases hA0 : nameAt s 0 = false
  · have HN := Lib.hid (hno0.out hA0)
    rw [hat0.out] at hA0
    have hL : letterB s[0].toNat = false := (Bool.or_eq_false_iff.1 hA0).1
    have h37 : ¬ s[0].toNat = 37 := by simpa using (Bool.or_eq_false_iff.1 hA0).2
    have q3 : ((s[0].toNat : Int) != 37) = true := bne_iff_ne.2 (by omega)
    clear hA0 h37
    go_enter Tryz.func230, Tryz.ntmps230
    go_wp2_with fail
    refine (l02Letter_any s[0].toNat false hL _).mono ?_
    rintro e w1 ⟨rfl, rfl⟩
    go_wp2_with fail
    go_ret
    exact ⟨by rw [HN.out]; rfl, rfl⟩
  have HA0 := Lib.hid (show nameAt s 0 = true by simpa using hA0)
  clear hA0
  obtain ⟨L, hL⟩ : ∃ L, letterB s[0].toNat = L := ⟨_, rfl⟩
  have HL := Lib.hid hL
  clear hL
  have q3 : L = false → ((s[0].toNat : Int) != 37) = false := by
    intro h
    have := HA0.out
    rw [hat0.out, HL.out, h] at this
    simp at this
    simp
    omega
  go_enter Tryz.func230, Tryz.ntmps230
  go_wp2_with fail
  refine (l02Letter_any s[0].toNat L HL.out _).mono ?_
  rintro e w1 ⟨rfl, rfl⟩
  have main : ∀ (tail : Prop), tail → tail := fun _ h => h
  cases L
  all_goals
    first | (have q4 := q3 rfl; clear q3; go_wp2_with fail) | (clear q3; go_wp2_with fail)
    go_loop [3] (fun i => ∃ k : Nat, 1 ≤ k ∧ k ≤ s.size ∧ i = .int .i64 k ∧ Hid ((List.range k).all (nameAt s) = true)) (fun i => s.size - (intOf i).toNat)
    case atStart => exact ⟨1, by omega, by omega, rfl, Lib.hid (by rw [range_all_succ (nameAt s) 0, HA0.out]; rfl)⟩
    case round =>
      obtain ⟨k, hk1, hk, rfl, hall⟩ := hrel
      by_cases hlt : k < s.size
      · have hno := Lib.hid (name_no (s := s) hlt)
        have hstep := Lib.hid (range_all_succ (nameAt s) k)
        have hb : s[k].toNat < 256 := UInt8.toNat_lt _
        have hat := Lib.hid (show nameAt s k = (letterB s[k].toNat || digitB s[k].toNat) by unfold nameAt; rw [get_at s k hlt, if_neg (by omega)])
        go_wp2_with fail
        cases hL : letterB s[k].toNat
        · have HL' := Lib.hid hL
          refine (l02Letter_any s[k].toNat false hL _).mono ?_
          rintro e w1 ⟨rfl, rfl⟩
          clear hL
          cases hD : digitB s[k].toNat
          · have HA := Lib.hid (hno.out (by rw [hat.out, HL'.out, hD]; rfl))
            go_wp2_with fail
            refine (l01Digit_any s[k].toNat false hD _).mono ?_
            rintro e w1 ⟨rfl, rfl⟩
            go_wp2_with fail
            go_ret
            exact ⟨by rw [HA.out]; rfl, rfl⟩
          · have HA := Lib.hid (show nameAt s k = true by rw [hat.out, HL'.out, hD]; rfl)
            go_wp2_with fail
            refine (l01Digit_any s[k].toNat true hD _).mono ?_
            rintro e w1 ⟨rfl, rfl⟩
            go_wp2_with fail
            go_round
            case rel => exact ⟨k + 1, by omega, by omega, by go_num, Lib.hid (by rw [hstep.out, hall.out, HA.out]; rfl)⟩
            case measure => simp [intOf]; omega
        · have HA := Lib.hid (show nameAt s k = true by rw [hat.out, hL]; rfl)
          refine (l02Letter_any s[k].toNat true hL _).mono ?_
          rintro e w1 ⟨rfl, rfl⟩
          go_wp2_with fail
          go_round
          case rel => exact ⟨k + 1, by omega, by omega, by go_num, Lib.hid (by rw [hstep.out, hall.out, HA.out]; rfl)⟩
          case measure => simp [intOf]; omega
      · have HN := Lib.hid (show nameB s = true by
          have := hall.out
          rw [show k = s.size by omega] at this
          rw [HZ.out, this])
        go_wp2_with fail
        go_ret
        exact ⟨by rw [HN.out]; rfl, rfl⟩
end
section
open Go.RowKit Go.Shelf
set_option linter.unusedVariables false
theorem digR_cons (n : Nat) (c : UInt8) (l : List UInt8) : digR n (c :: l) = if isDig c = true then digR (min (10 * n + dval c) 1000000000000) l else (n, c :: l) := rfl
theorem frR_cons (n u : Nat) (c : UInt8) (l : List UInt8) : frR n u (c :: l) = if isDig c = true then frR (n + dval c * u) (u / 10) l else n := rfl
theorem fracR_dot (n : Nat) (t : List UInt8) : fracR n (46 :: t) = frR n 100000 t := by
  show (if (46 : UInt8) = 46 then frR n 100000 t else n) = _
  rw [if_pos rfl]
theorem l00Min_any (a b : Int) (w : World) : Calls Tryz.prog 348 #[.int .i64 a, .int .i64 b] w fun e w' => e = .returned (.int .i64 (min a b)) ∧ w = w' := by
  generalize hg : min a b = c
  have HG := Lib.hid hg; clear hg
  by_cases h : a < b
  · go_enter Tryz.func348, Tryz.ntmps348
    go_wp2
    go_ret
    exact ⟨ret_int (by have := HG.out; show a = c; omega), rfl⟩
  · go_enter Tryz.func348, Tryz.ntmps348
    go_wp2
    go_ret
    exact ⟨ret_int (by have := HG.out; show b = c; omega), rfl⟩
set_option maxHeartbeats 4000000 in
set_option maxRecDepth 100000 in
theorem l01Of_any (s : ByteArray) (w : World) (hs : s.size ≤ 9223372036854775000) : Calls Tryz.prog 270 #[.string s] w fun e w' => e = .returned (.int .i64 (numOf s.data.toList)) ∧ w = w' := by
  have HL := Lib.hid (size_len s)
  generalize hno : numOf s.data.toList = res
  have HNO := Lib.hid hno; clear hno
  go_enter Tryz.func270, Tryz.ntmps270
  go_upto_block 0 with fail
  go_cut [3, 4] (fun i b wc => ∃ k : Nat, k ≤ s.size ∧ i = .int .i64 k ∧ b = .bool (negB s.data.toList) ∧ Hid (s.data.toList.drop k = s.data.toList.dropWhile isSign) ∧ w = wc)
  case first =>
    go_wp2_with fail
    go_loop [3, 4] (fun i b => ∃ (k : Nat) (c : Bool), k ≤ s.size ∧ i = .int .i64 k ∧ b = .bool c ∧ Hid (sgnR c (s.data.toList.drop k) = (negB s.data.toList, s.data.toList.dropWhile isSign))) (fun i _ => s.size - (intOf i).toNat)
    case atStart => exact ⟨0, false, by omega, rfl, rfl, Lib.hid (by rw [List.drop_zero, sgnR_eq, Bool.false_bne])⟩
    case round =>
      obtain ⟨k, c, hk, rfl, rfl, hg⟩ := hrel
      by_cases hlt : k < s.size
      · have HDr := Lib.hid (drop_at' s k hlt)
        have hx : s[k].toNat < 256 := UInt8.toNat_lt _
        by_cases h43 : s[k] = 43
        · have q1 : ((s[k].toNat : Int) == 43) = true := beq_iff_eq.2 (by rw [h43]; rfl)
          have q2 : ((s[k].toNat : Int) == 45) = false := beq_eq_false_iff_ne.2 (by rw [h43]; decide)
          have HN := Lib.hid (show sgnR c (s.data.toList.drop (k + 1)) = (negB s.data.toList, s.data.toList.dropWhile isSign) by
            have h := hg.out
            rw [HDr.out] at h
            unfold sgnR at h
            rw [h43, if_pos (show isSign 43 = true from rfl), show ((43 : UInt8) == 45) = false from rfl, Bool.bne_false] at h
            exact h)
          clear h43 hg HDr
          go_wp2_with fail
          go_round
          case rel => exact ⟨k + 1, c, by omega, by go_num, by cases c <;> rfl, HN⟩
          case measure => simp [intOf]; omega
        · by_cases h45 : s[k] = 45
          · have q1 : ((s[k].toNat : Int) == 43) = false := beq_eq_false_iff_ne.2 (by rw [h45]; decide)
            have q2 : ((s[k].toNat : Int) == 45) = true := beq_iff_eq.2 (by rw [h45]; rfl)
            have HN := Lib.hid (show sgnR (!c) (s.data.toList.drop (k + 1)) = (negB s.data.toList, s.data.toList.dropWhile isSign) by
              have h := hg.out
              rw [HDr.out] at h
              unfold sgnR at h
              rw [h45, if_pos (show isSign 45 = true from rfl), show ((45 : UInt8) == 45) = true from rfl, Bool.bne_true] at h
              exact h)
            clear h43 h45 hg HDr
            go_wp2_with fail
            go_round
            case rel => exact ⟨k + 1, !c, by omega, by go_num, by cases c <;> rfl, HN⟩
            case measure => simp [intOf]; omega
          · have q1 : ((s[k].toNat : Int) == 43) = false := beq_eq_false_iff_ne.2 (fun e => h43 (UInt8.toNat_inj.1 (by show s[k].toNat = 43; omega)))
            have q2 : ((s[k].toNat : Int) == 45) = false := beq_eq_false_iff_ne.2 (fun e => h45 (UInt8.toNat_inj.1 (by show s[k].toNat = 45; omega)))
            have HN := Lib.hid (show c = negB s.data.toList ∧ s.data.toList.drop k = s.data.toList.dropWhile isSign by
              have h := hg.out
              rw [HDr.out] at h ⊢
              have hns : ¬ isSign s[k] = true := by unfold isSign; simp [h43, h45]
              unfold sgnR at h
              rw [if_neg hns] at h
              exact ⟨congrArg Prod.fst h, congrArg Prod.snd h⟩)
            clear h43 h45 hg HDr
            go_wp2_with fail
            go_meet
            exact ⟨k, hk, rfl, by rw [HN.out.1], Lib.hid HN.out.2, rfl⟩
      · have HN := Lib.hid (show c = negB s.data.toList ∧ s.data.toList.drop k = s.data.toList.dropWhile isSign by
          have h := hg.out
          have hn : s.data.toList.drop k = [] := List.drop_eq_nil_of_le (by rw [← size_len]; omega)
          rw [hn] at h ⊢
          exact ⟨congrArg Prod.fst h, congrArg Prod.snd h⟩)
        clear hg
        go_wp2_with fail
        go_meet
        exact ⟨k, hk, rfl, by rw [HN.out.1], Lib.hid HN.out.2, rfl⟩
  case rest =>
  obtain ⟨k0, hk0, rfl, rfl, HK0, rfl⟩ := hcut
  have HDG := Lib.hid (digR_eq 0 (s.data.toList.dropWhile isSign))
  go_upto_block 2 with fail
  go_cut [3, 5] (fun i n wc => ∃ k z : Nat, k ≤ s.size ∧ i = .int .i64 k ∧ n = .int .i64 z ∧ z ≤ 1000000000000 ∧ Hid ((z, s.data.toList.drop k) = digR 0 (s.data.toList.dropWhile isSign)) ∧ w = wc)
  case first =>
    go_wp2_with fail
    go_loop [3, 5] (fun i n => ∃ k z : Nat, k ≤ s.size ∧ i = .int .i64 k ∧ n = .int .i64 z ∧ z ≤ 1000000000000 ∧ Hid (digR z (s.data.toList.drop k) = digR 0 (s.data.toList.dropWhile isSign))) (fun i _ => s.size - (intOf i).toNat)
    case atStart => exact ⟨k0, 0, hk0, rfl, rfl, by omega, Lib.hid (by rw [HK0.out])⟩
    case round =>
      obtain ⟨k, z, hk, rfl, rfl, hz, hg⟩ := hrel
      by_cases hlt : k < s.size
      · have HDr := Lib.hid (drop_at' s k hlt)
        have hx : s[k].toNat < 256 := UInt8.toNat_lt _
        cases hD : isDig s[k]
        · have HN := Lib.hid (show (z, s.data.toList.drop k) = digR 0 (s.data.toList.dropWhile isSign) by
            have h := hg.out
            rw [HDr.out] at h ⊢
            rw [digR_cons, if_neg (by rw [hD]; simp)] at h
            exact h)
          have HDD := Lib.hid hD
          clear hg HDr hD
          go_wp2_with fail
          refine (l01Digit_any s[k].toNat false HDD.out _).mono ?_
          rintro e w1 ⟨rfl, rfl⟩
          go_wp2_with fail
          go_meet
          exact ⟨k, z, hk, rfl, rfl, hz, HN, rfl⟩
        · have HN := Lib.hid (show digR (min (10 * z + dval s[k]) 1000000000000) (s.data.toList.drop (k + 1)) = digR 0 (s.data.toList.dropWhile isSign) by
            have h := hg.out
            rw [HDr.out] at h
            rw [digR_cons, if_pos hD] at h
            exact h)
          have HDD := Lib.hid hD
          have hdd : 48 ≤ s[k].toNat ∧ s[k].toNat ≤ 57 := by unfold isDig at hD; simpa using hD
          have hdv := Lib.hid (show dval s[k] = s[k].toNat - 48 from rfl)
          obtain ⟨d1, d2⟩ := hdd
          clear hg HDr hD
          go_wp2_with fail
          refine (l01Digit_any s[k].toNat true HDD.out _).mono ?_
          rintro e w1 ⟨rfl, rfl⟩
          go_wp2_with fail
          refine (l00Min_any _ _ _).mono ?_
          rintro e w1 ⟨rfl, rfl⟩
          have HM := Lib.hid (show min (10 * (z : Int) + ((s[k].toNat : Int) - 48)) 1000000000000 = ((min (10 * z + dval s[k]) 1000000000000 : Nat) : Int) by have := hdv.out; omega)
          have hb2 : min (10 * z + dval s[k]) 1000000000000 ≤ 1000000000000 := Nat.min_le_right _ _
          generalize hz2 : min (10 * z + dval s[k]) 1000000000000 = z2 at *
          clear hz2
          rw [HM.out]
          go_wp2_with fail
          go_round
          case rel => exact ⟨k + 1, z2, by omega, by go_num, rfl, hb2, HN⟩
          case measure => simp [intOf]; omega
      · have HN := Lib.hid (show (z, s.data.toList.drop k) = digR 0 (s.data.toList.dropWhile isSign) by
          have h := hg.out
          have hn : s.data.toList.drop k = [] := List.drop_eq_nil_of_le (by rw [← size_len]; omega)
          rw [hn] at h ⊢
          exact h)
        clear hg
        go_wp2_with fail
        go_meet
        exact ⟨k, z, hk, rfl, rfl, hz, HN, rfl⟩
  case rest =>
  obtain ⟨k, z, hk, rfl, rfl, hz, HZ, rfl⟩ := hcut
  have HR0 := Lib.hid (show res = if negB s.data.toList = true then -((min (fracR (min (z * 1000000) 1000000000000000000) (s.data.toList.drop k)) 999999999999999999 : Nat) : Int) else ((min (fracR (min (z * 1000000) 1000000000000000000) (s.data.toList.drop k)) 999999999999999999 : Nat) : Int) by
    rw [← HNO.out]
    unfold numOf
    rw [← refNum_eq]
    unfold refNum
    rw [← HZ.out])
  clear HDG HK0 HNO HZ
  go_wp2_with fail
  refine (l00Min_any _ _ _).mono ?_
  rintro e w1 ⟨rfl, rfl⟩
  have HM := Lib.hid (show min ((z : Int) * 1000000) 1000000000000000000 = ((min (z * 1000000) 1000000000000000000 : Nat) : Int) by omega)
  have hm1 : min (z * 1000000) 1000000000000000000 ≤ 1000000000000000000 := Nat.min_le_right _ _
  generalize min (z * 1000000) 1000000000000000000 = n1 at *
  rw [HM.out]
  clear HM hz
  have tail : ∀ (n2 : Nat), n2 ≤ 9000000000000000000 → Hid (n2 = fracR n1 (s.data.toList.drop k)) → Hid (res = if negB s.data.toList = true then -((min n2 999999999999999999 : Nat) : Int) else ((min n2 999999999999999999 : Nat) : Int)) := by
    intro n2 _ h
    rw [h.out]; exact HR0
  clear HR0
  generalize negB s.data.toList = ng at *
  obtain ⟨dot, HDO⟩ : ∃ d : Bool, Hid (d = decide (k < s.size ∧ s.data.toList.getD k 0 = 46)) := ⟨_, Lib.hid rfl⟩
  go_upto_region 11 with fail
  go_cut [64] (fun d wc => d = .bool dot ∧ w = wc)
  case first =>
    by_cases hlt : k < s.size
    · have hx : s[k].toNat < 256 := UInt8.toNat_lt _
      by_cases h46 : s[k] = 46
      · have q1 : ((s[k].toNat : Int) == 46) = true := beq_iff_eq.2 (by rw [h46]; rfl)
        have HD2 := Lib.hid (show dot = true by rw [HDO.out]; exact decide_eq_true ⟨hlt, by rw [idx_getD s k hlt]; exact h46⟩)
        clear h46
        go_wp2_with fail
        go_meet
        exact ⟨by rw [HD2.out], rfl⟩
      · have q1 : ((s[k].toNat : Int) == 46) = false := beq_eq_false_iff_ne.2 (fun e => h46 (UInt8.toNat_inj.1 (by show s[k].toNat = 46; omega)))
        have HD2 := Lib.hid (show dot = false by rw [HDO.out]; exact decide_eq_false (fun h => h46 (by rw [← idx_getD s k hlt]; exact h.2)))
        clear h46
        go_wp2_with fail
        go_meet
        exact ⟨by rw [HD2.out], rfl⟩
    · have HD2 := Lib.hid (show dot = false by rw [HDO.out]; exact decide_eq_false (fun h => hlt h.1))
      go_wp2_with fail
      go_meet
      exact ⟨by rw [HD2.out], rfl⟩
  case rest =>
  obtain ⟨rfl, rfl⟩ := hcut
  go_upto_if 64 with fail
  go_cut [5] (fun n wc => ∃ n2 : Nat, n2 ≤ 9000000000000000000 ∧ n = .int .i64 n2 ∧ Hid (n2 = fracR n1 (s.data.toList.drop k)) ∧ w = wc)
  case first =>
    cases dot
    · have HF := Lib.hid (show n1 = fracR n1 (s.data.toList.drop k) by
        have hn := of_decide_eq_false HDO.out.symm
        cases hd : s.data.toList.drop k with
        | nil => rfl
        | cons c t =>
          have hlt : k < s.size := by
            rw [size_len]
            have := congrArg List.length hd
            simp only [List.length_drop, List.length_cons] at this
            omega
          have hc : c ≠ 46 := fun e => hn ⟨hlt, by
            have h2 := drop_at _ k (show k < s.data.toList.length by rw [← size_len]; exact hlt)
            rw [hd] at h2
            have := (List.cons.inj h2).1
            rw [← this]; exact e⟩
          show n1 = if c = 46 then frR n1 100000 t else n1
          rw [if_neg hc])
      clear HDO
      go_wp2_with fail
      go_meet
      exact ⟨n1, by omega, rfl, HF, rfl⟩
    · have hd := of_decide_eq_true HDO.out.symm
      obtain ⟨hlt, h46⟩ := hd
      have HF := Lib.hid (show fracR n1 (s.data.toList.drop k) = frR n1 100000 (s.data.toList.drop (k + 1)) by
        rw [drop_at _ k (by rw [← size_len]; exact hlt), h46]
        exact fracR_dot n1 _)
      have hk1 : k + 1 ≤ s.size := by omega
      clear HDO h46
      go_wp2_with fail
      go_loop [3, 5, 6] (fun i n u => ∃ j z y : Nat, j ≤ s.size ∧ i = .int .i64 j ∧ n = .int .i64 z ∧ u = .int .i64 y ∧ Hid (frR z y (s.data.toList.drop j) = fracR n1 (s.data.toList.drop k)) ∧ y ≤ 100000 ∧ z + 10 * y ≤ 2000000000000000000) (fun i _ _ => s.size - (intOf i).toNat)
      case atStart => exact ⟨k + 1, n1, 100000, hk1, by go_num, rfl, rfl, Lib.hid HF.out.symm, by omega, by omega⟩
      case round =>
        obtain ⟨j, z, y, hj, rfl, rfl, rfl, hg, hy, hzy⟩ := hrel
        clear HF hlt hk1
        by_cases hlt : j < s.size
        · have HDr := Lib.hid (drop_at' s j hlt)
          have hx : s[j].toNat < 256 := UInt8.toNat_lt _
          cases hD : isDig s[j]
          · have HN := Lib.hid (show z = fracR n1 (s.data.toList.drop k) by
              have h := hg.out
              rw [HDr.out, frR_cons, if_neg (by rw [hD]; simp)] at h
              exact h)
            have HDD := Lib.hid hD
            clear hg HDr hD
            go_wp2_with fail
            refine (l01Digit_any s[j].toNat false HDD.out _).mono ?_
            rintro e w1 ⟨rfl, rfl⟩
            go_wp2_with fail
            go_meet
            exact ⟨z, by omega, rfl, HN, rfl⟩
          · have HN := Lib.hid (show frR (z + dval s[j] * y) (y / 10) (s.data.toList.drop (j + 1)) = fracR n1 (s.data.toList.drop k) by
              have h := hg.out
              rw [HDr.out, frR_cons, if_pos hD] at h
              exact h)
            have HDD := Lib.hid hD
            have hdd : 48 ≤ s[j].toNat ∧ s[j].toNat ≤ 57 := by unfold isDig at hD; simpa using hD
            obtain ⟨d1, d2⟩ := hdd
            obtain ⟨d, hd, hd9⟩ : ∃ d : Nat, dval s[j] = d ∧ d ≤ 9 := ⟨_, rfl, by unfold dval; omega⟩
            have hdv := Lib.hid (show (s[j].toNat : Int) - 48 = (d : Int) by unfold dval at hd; omega)
            have hp : d * y ≤ 9 * y := Nat.mul_le_mul_right _ hd9
            have HP := Lib.hid (show (d : Int) * (y : Int) = ((d * y : Nat) : Int) by rw [Int.natCast_mul])
            rw [hd] at HN
            generalize d * y = dy at *
            clear hg HDr hD hd
            go_wp2_with fail
            refine (l01Digit_any s[j].toNat true HDD.out _).mono ?_
            rintro e w1 ⟨rfl, rfl⟩
            have h1 := hdv.out
            have h2 := HP.out
            go_wp2_with fail
            go_round
            case rel => exact ⟨j + 1, z + dy, y / 10, by omega, by go_num, by go_num, by go_num, HN, by omega, by omega⟩
            case measure => simp [intOf]; omega
        · have HN := Lib.hid (show z = fracR n1 (s.data.toList.drop k) by
            have h := hg.out
            rw [List.drop_eq_nil_of_le (by rw [← size_len]; omega)] at h
            exact h)
          clear hg
          go_wp2_with fail
          go_meet
          exact ⟨z, by omega, rfl, HN, rfl⟩
  case rest =>
  obtain ⟨n2, hn2, rfl, HF, rfl⟩ := hcut
  have HT := tail n2 hn2 HF
  clear tail HF
  go_wp2_with fail
  refine (l00Min_any _ _ _).mono ?_
  rintro e w1 ⟨rfl, rfl⟩
  have HM := Lib.hid (show min (n2 : Int) 999999999999999999 = ((min n2 999999999999999999 : Nat) : Int) by omega)
  have hm2 : min n2 999999999999999999 ≤ 999999999999999999 := Nat.min_le_right _ _
  generalize min n2 999999999999999999 = n3 at *
  rw [HM.out]
  clear HM hn2
  cases ng
  · go_wp2_with fail
    go_ret
    exact ⟨by rw [HT.out]; rfl, rfl⟩
  · go_wp2_with fail
    go_ret
    exact ⟨by rw [HT.out]; rfl, rfl⟩
end
section
open Go.RowKit Go.Shelf
set_option linter.unusedVariables false
theorem conv_one (w : World) (b : Nat) (x : UInt8) (h : w.cell? ⟨b, 0, none⟩ = some (.int .u8 (x.toNat : Int))) : (convert 22 9 (.slice (some ⟨b, 0, none⟩) 1 1)).run Tryz.prog w = .ok (.string ⟨#[x]⟩) w := by
  have := run_convert_bytes_back w 22 9 5 ⟨b, 0, none⟩ 1 [x] Tryz.underlying22 Tryz.underlying5 Tryz.underlying9 (fun j hj => by
    have : j = 0 := by simpa using hj
    subst this
    exact h)
  exact this
theorem below_d {w w1 : World} (h : Below w.drew.heap.size w.drew w1) : Below w.heap.size w w1 := ⟨h.os, h.tape, h.output, h.size, h.block⟩
theorem below_da {w w1 : World} {o : Obj} (h : Below (w.drew.alloc o).heap.size (w.drew.alloc o) w1) : Below w.heap.size w w1 :=
  below_d (((Below.refl _ _).alloc (Nat.le_refl _) o).trans (h.mono (by simp)))
set_option maxHeartbeats 2000000 in
theorem l01Whole_any (n : Nat) : ∀ (w : World), n ≤ 9223372036854775807 → Calls Tryz.prog 349 #[.int .i64 (n : Int)] w (StrPost (wholeD n) w) := by
  induction n using Nat.strongRecOn with
  | _ n ih =>
    intro w hn
    by_cases h0 : n = 0
    · subst h0
      go_enter Tryz.func349, Tryz.ntmps349
      go_wp2_with fail
      go_ret
      exact ⟨⟨#[]⟩, by rw [wholeD_zero], rfl, Below.refl _ _⟩
    · have hq : n / 10 < n := by omega
      have ih' := ih (n / 10) hq
      have HW := Lib.hid (wholeD_pos h0)
      have e1 : (n : Int).tdiv 10 = ((n / 10 : Nat) : Int) := by rw [Int.tdiv_eq_ediv_of_nonneg (by omega)]; omega
      have e2 : (n : Int).tmod 10 = ((n % 10 : Nat) : Int) := by rw [Int.tmod_eq_emod_of_nonneg (by omega)]; omega
      have e3 : (n : Int) / 10 = ((n / 10 : Nat) : Int) := by omega
      have e4 : (n : Int) % 10 = ((n % 10 : Nat) : Int) := by omega
      have hq2 : n / 10 ≤ 922337203685477580 := by omega
      have hr : n % 10 < 10 := by omega
      have e0 : ((n : Int) == 0) = false := beq_eq_false_iff_ne.2 (by omega)
      clear ih hq
      generalize n / 10 = q at *
      generalize n % 10 = r at *
      obtain ⟨x, hx, HX⟩ : ∃ x : UInt8, (48 + (r : Int)) = (x.toNat : Int) ∧ Hid (x = UInt8.ofNat (48 + r)) := ⟨_, by rw [toNat_dig hr]; omega, Lib.hid rfl⟩
      have hx2 : x.toNat ≤ 255 := by have := UInt8.toNat_lt x; omega
      have e5 : IntKind.i64.wrap (x.toNat : Int) = (x.toNat : Int) := IntWalk.i64_in _ (by omega)
      have e7 : IntKind.i64.wrap (q : Int) = (q : Int) := IntWalk.i64_in _ (by omega)
      have e6 : IntKind.u8.wrap (x.toNat : Int) = (x.toNat : Int) := by
        show (x.toNat : Int) % 256 = _
        omega
      have hc := conv_one (x := x)
      go_enter Tryz.func349, Tryz.ntmps349
      go_wp2_with fail
      go_region_with ((go_at_call 349; refine (ih' _ (by omega)).mono ?_; rintro e w1 ⟨t, ht, rfl, hb⟩; have HB := Lib.hid hb; have HT := Lib.hid ht; have hq := fun (o : Nat) => hb.cell (p := ⟨w.heap.size, o, none⟩); have ts : t.size ≤ 1000 := (by have h1 := size_len t; rw [ht] at h1; have := wholeD_len_le (n := q) (k := 19) (by omega); omega); clear ht hb))
      all_goals
        go_wp2_with fail
        go_ret
        refine ⟨_, by rw [HW.out, app_list, HT.out, ← HX.out], rfl, ?_⟩
        first
        | exact (below_d HB.out).alloc (below_d HB.out).size _
        | exact below_da HB.out
end
section
open Go.RowKit Go.Shelf
set_option linter.unusedVariables false
def strOf : Value → ByteArray | .string s => s | _ => ⟨#[]⟩
theorem strip0_snoc (l : List UInt8) (c : UInt8) : strip0 (l ++ [c]) = if c = 48 then strip0 l else l ++ [c] := by
  unfold strip0
  rw [List.reverse_append, List.reverse_singleton, List.singleton_append, List.dropWhile_cons]
  by_cases h : c = 48
  · rw [if_pos (by simp [h]), if_pos h]
  · rw [if_neg (by simp [h]), if_neg h, List.reverse_cons, List.reverse_reverse]
theorem strip0_frac_ne {r : Nat} (h : r < 1000000) (h0 : 0 < r) : strip0 (fracD r) ≠ [] := by
  intro e
  obtain ⟨k, hk⟩ := strip0_spec (fracD r)
  rw [e, List.nil_append] at hk
  have := valF_fracD h
  rw [hk, valF_zeros] at this
  omega
theorem last_split (f : ByteArray) (h : 0 < f.size) : f.data.toList = (f.extract 0 (f.size - 1)).data.toList ++ [f[f.size - 1]] := by
  rw [extract_list, List.drop_zero]
  have hl : f.data.toList.length = f.size := (size_len f).symm
  have h1 : f.size - 1 < f.data.toList.length := by omega
  have h2 := List.take_succ_eq_append_getElem h1
  rw [show f.size - 1 + 1 = f.data.toList.length by omega, List.take_length] at h2
  exact h2
set_option maxHeartbeats 2000000 in
theorem l01TextP_any (m : Nat) (w : World) (hm : m ≤ 999999999999999999) : Calls Tryz.prog 271 #[.int .i64 (m : Int)] w (StrPost (bodyT m) w) := by
  have e1 : ¬ (m : Int) < 0 := by omega
  have e5 : (m : Int) / 1000000 = ((m / 1000000 : Nat) : Int) := by omega
  have e6 : (m : Int) % 1000000 = ((m % 1000000 : Nat) : Int) := by omega
  have hq : m / 1000000 ≤ 999999999999 := by omega
  have HR : m % 1000000 < 1000000 := by omega
  by_cases h0 : m = 0
  · subst h0
    go_enter Tryz.func271, Tryz.ntmps271
    go_wp2_with fail
    refine (l01Whole_any 0 w (by omega)).mono ?_
    rintro e w1 ⟨t, ht, rfl, hb1⟩
    rw [wholeD_zero] at ht
    obtain rfl : t = ⟨#[]⟩ := ba_ext ht
    clear ht
    go_wp2_with fail
    go_ret
    exact ⟨⟨#[48]⟩, rfl, rfl, hb1⟩
  · have HB := Lib.hid (show bodyT m = wholeD (m / 1000000) ++ (if m % 1000000 = 0 then [] else 46 :: strip0 (fracD (m % 1000000))) by unfold bodyT body; rw [if_neg h0])
    have HNE := Lib.hid (show m % 1000000 = 0 → wholeD (m / 1000000) ≠ [] by
      intro h
      rw [wholeD_pos (show m / 1000000 ≠ 0 by omega)]; simp)
    have hwl := wholeD_len_le (n := m / 1000000) (k := 12) (by omega)
    generalize m / 1000000 = q at *
    generalize m % 1000000 = r at *
    clear h0
    go_enter Tryz.func271, Tryz.ntmps271
    go_wp2_with fail
    refine (l01Whole_any q w (by omega)).mono ?_
    rintro e w1 ⟨t, ht, rfl, hb1⟩
    have HT := Lib.hid ht
    have ts : t.size ≤ 1000 := by have h1 := size_len t; rw [ht] at h1; omega
    clear ht hwl
    by_cases hr : r = 0
    · have HB2 := Lib.hid (show bodyT m = wholeD q by rw [HB.out, if_pos hr, List.append_nil])
      clear HB
      subst hr
      have hne : (t.toList == []) = false := by
        rw [ByteArray.toList_eq]
        exact beq_eq_false_iff_ne.2 (by rw [HT.out]; exact HNE.out rfl)
      have hne2 : t.toList.isEmpty = false := by
        rw [ByteArray.toList_eq]
        have := HNE.out rfl
        rw [← HT.out] at this
        cases hh : t.data.toList with
        | nil => exact absurd hh this
        | cons => rfl
      clear HNE
      go_wp2_with fail
      go_ret
      exact ⟨t, by rw [HT.out, HB2.out], rfl, hb1⟩
    · have hrp : 0 < r := by omega
      clear HNE
      have HB2 := Lib.hid (show bodyT m = wholeD q ++ 46 :: strip0 (fracD r) by rw [HB.out, if_neg hr])
      have hrl : (0 : Int) < (r : Int) := by omega
      have HSN := Lib.hid (strip0_frac_ne HR hrp)
      clear hr HB e1 hm hrp
      go_wp2_with fail
      have hwl := l01Whole_any (1000000 + r) w1 (by omega)
      rw [show ((1000000 + r : Nat) : Int) = 1000000 + (r : Int) by omega] at hwl
      refine hwl.mono ?_
      rintro e w2 ⟨f0, hf0, rfl, hb2⟩
      have HF := Lib.hid (show f0.data.toList = 49 :: fracD r by rw [hf0]; exact wholeD_head HR)
      have fs := Lib.hid (show f0.size = 7 by rw [size_len f0, HF.out, List.length_cons, fracD_length HR])
      have fs1 : 1 ≤ f0.size := by have := fs.out; omega
      have fs2 : f0.size ≤ 1000 := by have := fs.out; omega
      clear hf0 hwl
      have hb3 : Below w.heap.size w w2 := hb1.trans (hb2.mono (by have := hb1.size; omega))
      go_wp2_with fail
      go_loop [5] (fun v => ∃ f : ByteArray, v = .string f ∧ f.size ≤ 1000 ∧ Hid (strip0 f.data.toList = strip0 (fracD r))) (fun v => (strOf v).size)
      case atStart => exact ⟨_, rfl, by rw [ByteArray.size_extract]; omega, Lib.hid (by rw [extract_list, HF.out, List.take_of_length_le (by have := fs.out; rw [List.length_cons, fracD_length HR]; omega)]; rfl)⟩
      case round =>
        obtain ⟨f, rfl, hfs, HS⟩ := hrel
        have hpos : 0 < f.size := by
          rcases Nat.eq_zero_or_pos f.size with h | h
          · exfalso
            have h2 : f.data.toList = [] := List.length_eq_zero_iff.1 (by rw [← size_len]; exact h)
            have h3 := HS.out
            rw [h2] at h3
            exact HSN.out h3.symm
          · exact h
        have q1 : (0 : Int) ≤ (f.size : Int) - 1 := by omega
        have q2 : ((f.size : Int) - 1).toNat = f.size - 1 := by omega
        have q3 : f.size - 1 < f.size := by omega
        have HL := Lib.hid (last_split f hpos)
        have hx : f[f.size - 1].toNat < 256 := UInt8.toNat_lt _
        by_cases h48 : f[f.size - 1] = 48
        · have t1 : ((f[f.size - 1].toNat : Int) == 48) = true := beq_iff_eq.2 (by rw [h48]; rfl)
          have HN := Lib.hid (show strip0 (f.extract 0 (f.size - 1)).data.toList = strip0 (fracD r) by
            rw [← HS.out]; conv => rhs; rw [HL.out, strip0_snoc, if_pos h48])
          clear h48
          go_wp2_with fail
          go_round
          case rel => exact ⟨_, rfl, by rw [ByteArray.size_extract]; omega, HN⟩
          case measure => simp [strOf]; omega
        · have t1 : ((f[f.size - 1].toNat : Int) == 48) = false := beq_eq_false_iff_ne.2 (fun e => h48 (UInt8.toNat_inj.1 (by show f[f.size - 1].toNat = 48; omega)))
          have HN := Lib.hid (show f.data.toList = strip0 (fracD r) by
            rw [← HS.out]; rw [HL.out, strip0_snoc, if_neg h48])
          clear h48
          have HZ := Lib.hid (show (t ++ (({ data := #[46] } : ByteArray) ++ f)).data.toList = bodyT m by rw [app_list, app_list, HT.out, HN.out, HB2.out]; rfl)
          have HZN := Lib.hid (show ¬ (t ++ (({ data := #[46] } : ByteArray) ++ f)).data.toList = [] by rw [app_list, app_list]; simp)
          have hz1 : ((t ++ (({ data := #[46] } : ByteArray) ++ f)).toList == []) = false := by
            rw [ByteArray.toList_eq]; exact beq_eq_false_iff_ne.2 HZN.out
          have hz2 : (t ++ (({ data := #[46] } : ByteArray) ++ f)).toList.isEmpty = false := by
            rw [ByteArray.toList_eq]
            cases hh : (t ++ (({ data := #[46] } : ByteArray) ++ f)).data.toList with
            | nil => exact absurd hh HZN.out
            | cons => rfl
          go_wp2_with fail
          go_ret
          exact ⟨_, HZ.out, rfl, hb3⟩
theorem l01Text_any (n : Int) (w : World) (hn : IsNum n) : Calls Tryz.prog 271 #[.int .i64 n] w (StrPost (textOf n) w) := by
  obtain ⟨h1, h2⟩ := hn
  by_cases h : n < 0
  · obtain ⟨m, rfl⟩ : ∃ m : Nat, n = -(m : Int) := ⟨n.natAbs, by omega⟩
    have HT := Lib.hid (show textOf (-(m : Int)) = 45 :: bodyT m by unfold textOf; rw [if_pos h, show (-(m : Int)).natAbs = m by omega])
    have HL := Lib.hid (show (bodyT m).length ≤ 19 by
      have := textOf_len (n := -(m : Int)) ⟨h1, h2⟩
      rw [HT.out, List.length_cons] at this
      omega)
    have e2 : - -(m : Int) = (m : Int) := by omega
    go_enter Tryz.func271, Tryz.ntmps271
    go_wp2_with fail
    refine (l01TextP_any m w (by omega)).mono ?_
    rintro e w1 ⟨t, ht, rfl, hb1⟩
    have ts : t.size ≤ 1000 := by have h1 := size_len t; rw [ht] at h1; have := HL.out; omega
    have HT2 := Lib.hid ht
    clear ht
    go_wp2_with fail
    go_ret
    exact ⟨_, by rw [HT.out, app_list, HT2.out]; rfl, rfl, hb1⟩
  · obtain ⟨m, rfl⟩ : ∃ m : Nat, n = (m : Int) := ⟨n.natAbs, by omega⟩
    have HT := Lib.hid (show textOf (m : Int) = bodyT m by unfold textOf; rw [if_neg h, show (m : Int).natAbs = m by omega])
    rw [HT.out]
    exact l01TextP_any m w (by omega)
set_option maxHeartbeats 1000000 in
theorem l01Canon_any (s : ByteArray) (w : World) (hs : s.size ≤ 9223372036854775000) : Calls Tryz.prog 411 #[.string s] w (BoolPost (canonB s.data.toList) w) := by
  have HC := Lib.hid (canonB_spec s.data.toList)
  by_cases h0 : s.data.toList = []
  · obtain rfl : s = ⟨#[]⟩ := ba_ext h0
    clear h0
    go_enter Tryz.func411, Tryz.ntmps411
    go_wp2_with fail
    go_ret
    exact ⟨by rw [HC.out]; rfl, Below.refl _ _⟩
  · have hz : s.toList.isEmpty = false := by
      rw [isEmpty_toList]
      cases hh : s.data.toList with
      | nil => exact absurd hh h0
      | cons => rfl
    have hz1 : (s.toList == []) = false := by rw [ByteArray.toList_eq]; exact beq_eq_false_iff_ne.2 h0
    have HZ := Lib.hid (show s.data.toList.isEmpty = false by rw [← isEmpty_toList]; exact hz)
    clear h0
    have hl := Lib.hid (size_len s)
    by_cases h21 : s.size ≤ 21
    · have HC2 := Lib.hid (show canonB s.data.toList = decide (textOf (numOf s.data.toList) = s.data.toList) by
        rw [HC.out, HZ.out, decide_eq_true (show s.data.toList.length ≤ 21 by have := hl.out; omega)]; rfl)
      have d21 : decide ((s.size : Int) ≤ 21) = true := decide_eq_true (by omega)
      clear HC
      go_enter Tryz.func411, Tryz.ntmps411
      go_wp2_with fail
      refine (l01Of_any s w hs).mono ?_
      rintro e w1 ⟨rfl, rfl⟩
      have hin : IsNum (numOf s.data.toList) := numOf_range _
      generalize numOf s.data.toList = k at *
      go_wp2_with fail
      refine (l01Text_any k w hin).mono ?_
      rintro e w2 ⟨t, ht, rfl, hb1⟩
      have HT := Lib.hid ht
      clear ht
      by_cases heq : t = s
      · have HV := Lib.hid (show canonB s.data.toList = true by rw [HC2.out, ← HT.out, heq]; exact decide_eq_true rfl)
        subst heq
        go_wp2_with fail
        go_ret
        exact ⟨by rw [HV.out]; simp, hb1⟩
      · have HV := Lib.hid (show canonB s.data.toList = false by rw [HC2.out, ← HT.out]; exact decide_eq_false (fun e => heq (ba_ext e)))
        have hq : (t.toList == s.toList) = false := by rw [toList_beq']; exact decide_eq_false heq
        go_wp2_with fail
        go_ret
        exact ⟨by rw [HV.out]; rfl, hb1⟩
    · have HV := Lib.hid (show canonB s.data.toList = false by
        rw [HC.out, decide_eq_false (show ¬ s.data.toList.length ≤ 21 by have := hl.out; omega), Bool.false_and, Bool.and_false])
      have d21 : decide ((s.size : Int) ≤ 21) = false := decide_eq_false (by omega)
      clear HC
      go_enter Tryz.func411, Tryz.ntmps411
      go_wp2_with fail
      go_ret
      exact ⟨by rw [HV.out]; rfl, Below.refl _ _⟩
set_option maxHeartbeats 1000000 in
theorem l02Before_any (a b : ByteArray) (w : World) (ha : a.size ≤ 9223372036854775000) (hb : b.size ≤ 9223372036854775000) : Calls Tryz.prog 342 #[.string a, .string b] w (BoolPost (beforeB a.data.toList b.data.toList) w) := by
  go_enter Tryz.func342, Tryz.ntmps342
  go_wp2_with fail
  refine (l01Canon_any a w ha).mono ?_
  rintro e w1 ⟨rfl, hb1⟩
  go_wp2_with fail
  refine (l01Canon_any b w1 hb).mono ?_
  rintro e w2 ⟨rfl, hb2⟩
  have hw2 : Below w.heap.size w w2 := hb1.trans (hb2.mono (by have := hb1.size; omega))
  have HL := Lib.hid (less_eq a b)
  cases hA : canonB a.data.toList <;> cases hB : canonB b.data.toList
  · have HV := Lib.hid (show beforeB a.data.toList b.data.toList = Op.bytesLess a.toList b.toList by unfold beforeB; rw [hA, hB, HL.out]; rfl)
    clear hA hB
    go_wp2_with fail
    go_ret
    exact ⟨by rw [HV.out]; rfl, hw2⟩
  · have HV := Lib.hid (show beforeB a.data.toList b.data.toList = false by unfold beforeB; rw [hA, hB]; rfl)
    clear hA hB
    go_wp2_with fail
    go_ret
    exact ⟨by rw [HV.out]; rfl, hw2⟩
  · have HV := Lib.hid (show beforeB a.data.toList b.data.toList = true by unfold beforeB; rw [hA, hB]; rfl)
    clear hA hB
    go_wp2_with fail
    go_ret
    exact ⟨by rw [HV.out]; rfl, hw2⟩
  · have HV := Lib.hid (show beforeB a.data.toList b.data.toList = decide (numOf a.data.toList < numOf b.data.toList) by unfold beforeB; rw [hA, hB]; rfl)
    clear hA hB
    go_wp2_with fail
    refine (l01Of_any a w2 ha).mono ?_
    rintro e w3 ⟨rfl, rfl⟩
    go_wp2_with fail
    refine (l01Of_any b w2 hb).mono ?_
    rintro e w3 ⟨rfl, rfl⟩
    generalize numOf a.data.toList = x at *
    generalize numOf b.data.toList = y at *
    go_wp2_with fail
    go_ret
    exact ⟨by rw [HV.out]; rfl, hw2⟩
end
end Go.Proofs.YtdpndampalapfaaGreatDoor
