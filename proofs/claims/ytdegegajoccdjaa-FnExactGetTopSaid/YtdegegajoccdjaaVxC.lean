/- Helpers for functions by the reckoner: short names for values, bytes, typed data read out of cells, loops over lists. -/
import Derived.Test.YtdegegajoccdjaaVx3
namespace Go.Proofs.Ytdegegajoccdjaa
open Go.RowKit
set_option linter.unusedVariables false
set_option linter.unusedSimpArgs false

theorem mix : Try.prog.follows .mixedOrders = true := by kernel_rfl
def bs (l : List UInt8) : ByteArray := ⟨l.toArray⟩
abbrev cI (n : Int) : IV := .cv (.pv (.int .i64 n))
abbrev cU (n : Int) : IV := .cv (.pv (.int .u8 n))
abbrev cB (b : Bool) : IV := .cv (.pv (.bool b))
abbrev cS (s : ByteArray) : IV := .cv (.pv (.str s))
abbrev cP (p : PV) : IV := .cv (.pv p)
abbrev aI (n : Int) : AV × Option Ob := (.pv (.int .i64 n), none)
abbrev aU (n : Int) : AV × Option Ob := (.pv (.int .u8 n), none)
abbrev aB (b : Bool) : AV × Option Ob := (.pv (.bool b), none)
abbrev aS (s : ByteArray) : AV × Option Ob := (.pv (.str s), none)
abbrev aP (p : PV) : AV × Option Ob := (.pv p, none)
abbrev aX : AV × Option Ob := (.bad, none)
/-- A list of the call's own, in slot k; one that may be written in place. -/
abbrev aL (slot k : Nat) (e : TypeId) (n : Nat) (l : List PV) : AV × Option Ob := (.own (4096 * slot), some (.lst k e n l false))
abbrev aM (slot k : Nat) (e : TypeId) (n : Nat) (l : List PV) : AV × Option Ob := (.own (4096 * slot), some (.lst k e n l true))
theorem len_size (s : ByteArray) : s.data.toList.length = s.size := Array.length_toList
theorem bs_toList (l : List UInt8) : (bs l).toList = l := ByteArray.toList_mk l
theorem bs_self (s : ByteArray) : bs s.data.toList = s := by cases s; rfl
theorem bs_len (l : List UInt8) : (bs l).size = l.length := by show l.toArray.size = _; simp
theorem bs_app (a b : List UInt8) : bs a ++ bs b = bs (a ++ b) := by
  rw [← bs_self (bs a ++ bs b), ByteArray.data_append, Array.toList_append]
  rfl
theorem extract_bs (s : ByteArray) (i j : Nat) : s.extract i j = bs ((s.data.toList.drop i).take (j - i)) := by
  have : (s.extract i j).data.toList = (s.data.toList.drop i).take (j - i) := by
    rw [ByteArray.data_extract, Array.toList_extract, List.extract_eq_take_drop]
  rw [← this, bs_self]
theorem u8_lit (c : UInt8) (n : Nat) (h : n < 256) : ((c.toNat : Int) == (n : Int)) = (c == UInt8.ofNat n) := by
  rw [Bool.eq_iff_iff, beq_iff_eq, beq_iff_eq]
  constructor
  · intro e
    have e' : c.toNat = n := by omega
    rw [← e', UInt8.ofNat_toNat]
  · intro e
    rw [e, UInt8.toNat_ofNat_of_lt' (by simpa using h)]
theorem wrapN {k : Nat} {n : Int} (h : k ≤ 2305843009213693952) (h1 : 0 ≤ n) (h2 : n ≤ 2305843009213693952) : IntKind.wrap .i64 ((k : Int) + n) = k + n := wrapI (by omega) (by omega)
theorem wrap1 {k : Nat} (h : k ≤ 2305843009213693952) : IntKind.wrap .i64 ((k : Int) + 1) = ((k + 1 : Nat) : Int) := by rw [wrapI (by omega) (by omega)]; omega
/-- A box in slot k. -/
abbrev aBx (slot : Nat) (l : List CV) : AV × Option Ob := (.ptr (4096 * slot) 0, some (.box l))
/-- Two texts are the same. -/
abbrev sEq (a b : ByteArray) : Bool := ByteArray.toList a == ByteArray.toList b
theorem sEq_iff {a b : ByteArray} : sEq a b = true ↔ a = b := by
  unfold sEq
  rw [beq_iff_eq, ByteArray.toList_eq, ByteArray.toList_eq]
  constructor
  · intro h
    rw [← bs_self a, ← bs_self b, h]
  · intro h; rw [h]
theorem sEq_self (a : ByteArray) : sEq a a = true := sEq_iff.2 rfl
theorem sEq_false {a b : ByteArray} : sEq a b = false ↔ a ≠ b := by
  rw [← Bool.not_eq_true, ne_eq, sEq_iff]
/-! Whatever is read out of cells: 'enc' lays a datum down. -/
noncomputable def isE {α : Type} (enc : α → PV) (R : α → Prop) (p : PV) : Bool := @decide (∃ a, p = enc a ∧ R a) (Classical.propDecidable _)
noncomputable def asE {α : Type} [Inhabited α] (enc : α → PV) (p : PV) : α := @Classical.epsilon α ⟨default⟩ fun a => p = enc a
theorem isE_mk {α : Type} {enc : α → PV} {R : α → Prop} {a : α} (h : R a) : isE enc R (enc a) = true := @decide_eq_true _ (Classical.propDecidable _) ⟨a, rfl, h⟩
theorem isE_inv {α : Type} {enc : α → PV} {R : α → Prop} {p : PV} (h : isE enc R p = true) : ∃ a, p = enc a ∧ R a := @of_decide_eq_true _ (Classical.propDecidable _) h
theorem asE_mk {α : Type} [Inhabited α] {enc : α → PV} (hinj : ∀ a b, enc a = enc b → a = b) (a : α) : asE enc (enc a) = a :=
  hinj _ _ (@Classical.epsilon_spec α (fun b => enc a = enc b) ⟨a, rfl⟩).symm
/-- A condition in words. -/
noncomputable def holds (p : Prop) : Bool := @decide p (Classical.propDecidable p)
theorem holds_mk {p : Prop} (h : p) : holds p = true := @decide_eq_true _ (Classical.propDecidable _) h
theorem holds_inv {p : Prop} (h : holds p = true) : p := @of_decide_eq_true _ (Classical.propDecidable _) h
noncomputable def nilB (l : List PV) : Bool := holds (l = [])
theorem nilB_mk : nilB [] = true := holds_mk rfl
theorem nilB_inv {l : List PV} (h : nilB l = true) : l = [] := holds_inv h
/-! Rounds over a list. -/
def foldS {α β ρ : Type} (step : α → β → Sum β ρ) (fin : β → ρ) : List α → β → ρ
  | [], b => fin b
  | x :: xs, b => match step x b with
    | .inl b' => foldS step fin xs b'
    | .inr r => r
theorem rangeLoop {α β σ ρ : Type} {f : σ → Option (Sum σ ρ)} (xs : List α) (st : Nat → β → σ) (step : α → β → Sum β ρ) (fin : β → ρ) (Inv : Nat → β → Prop)
    (hs : ∀ i (h : i < xs.length) b, Inv i b → (∃ b', step xs[i] b = .inl b' ∧ Inv (i + 1) b' ∧ f (st i b) = some (.inl (st (i + 1) b'))) ∨ (∃ r, step xs[i] b = .inr r ∧ f (st i b) = some (.inr r)))
    (hf : ∀ b, Inv xs.length b → f (st xs.length b) = some (.inr (fin b))) : ∀ (m i : Nat) (b : β), m + i = xs.length → Inv i b → LoopsTo f (st i b) (foldS step fin (xs.drop i) b) := by
  intro m
  induction m with
  | zero =>
    intro i b hm hI
    obtain rfl : i = xs.length := by omega
    rw [List.drop_length]
    exact .done _ _ (hf b hI)
  | succ m ih =>
    intro i b hm hI
    have hlt : i < xs.length := by omega
    rw [List.drop_eq_getElem_cons hlt]
    unfold foldS
    rcases hs i hlt b hI with ⟨b', h1, h2, h3⟩ | ⟨r, h1, h3⟩
    · rw [h1]
      exact .step _ _ _ h3 (ih (i + 1) b' (by omega) h2)
    · rw [h1]
      exact .done _ _ h3
theorem rangeLoop0 {α β σ ρ : Type} {f : σ → Option (Sum σ ρ)} (xs : List α) (st : Nat → β → σ) (step : α → β → Sum β ρ) (fin : β → ρ) (Inv : Nat → β → Prop)
    (hs : ∀ i (h : i < xs.length) b, Inv i b → (∃ b', step xs[i] b = .inl b' ∧ Inv (i + 1) b' ∧ f (st i b) = some (.inl (st (i + 1) b'))) ∨ (∃ r, step xs[i] b = .inr r ∧ f (st i b) = some (.inr r)))
    (hf : ∀ b, Inv xs.length b → f (st xs.length b) = some (.inr (fin b))) {b : β} (h0 : Inv 0 b) : LoopsTo f (st 0 b) (foldS step fin xs b) := by
  have := rangeLoop xs st step fin Inv hs hf xs.length 0 b (by omega) h0
  rwa [List.drop_zero] at this
/-- A search: the first that is wanted ends it. -/
theorem foldS_any {α ρ : Type} (p : α → Bool) (r e : ρ) (xs : List α) : foldS (fun x (_ : Unit) => if p x = true then .inr r else .inl ()) (fun _ => e) xs () = if xs.any p = true then r else e := by
  induction xs with
  | nil => rfl
  | cons x xs ih =>
    unfold foldS
    rw [List.any_cons]
    cases hp : p x with
    | true => rfl
    | false => simpa using ih
theorem ble3 (n : Nat) : Nat.ble 3 (n + 1 + 1 + 1) = true := Nat.ble_eq_true_of_le (by omega)
theorem ble2 (n : Nat) : Nat.ble 2 (n + 1 + 1) = true := Nat.ble_eq_true_of_le (by omega)
theorem ble1 (n : Nat) : Nat.ble 1 (n + 1) = true := Nat.ble_eq_true_of_le (by omega)
theorem blt0 (n : Nat) : Nat.blt 0 (n + 1) = true := Nat.ble_eq_true_of_le (by omega)
/-! Lists of texts. -/
abbrev pL (xs : List ByteArray) : PV := .sl xs.length (xs.map PV.str)
theorem map_str_inj : ∀ {xs ys : List ByteArray}, xs.map PV.str = ys.map PV.str → xs = ys
  | [], [], _ => rfl
  | [], _ :: _, h => by cases h
  | _ :: _, [], h => by cases h
  | x :: xs, y :: ys, h => by
    rw [List.map_cons, List.map_cons] at h
    injection h with h1 h2
    injection h1 with h1
    rw [h1, map_str_inj h2]
theorem pL_inj (xs ys : List ByteArray) (h : pL xs = pL ys) : xs = ys := by
  injection h with _ h
  exact map_str_inj h
theorem drop_strs (xs : List ByteArray) (i : Nat) (h : i < xs.length) : (xs.map PV.str).drop (i * 1) = .str xs[i] :: (xs.drop (i + 1)).map PV.str := by
  rw [Nat.mul_one, ← List.map_drop, List.drop_eq_getElem_cons h]
  rfl
def shL (xs : List ByteArray) : Prop := xs.length ≤ 100000 ∧ ∀ s ∈ xs, s.size ≤ 1000000
noncomputable abbrev isL (p : PV) : Bool := isE pL shL p
noncomputable abbrev asL (p : PV) : List ByteArray := asE pL p
theorem isL_mk {xs : List ByteArray} (h : shL xs) : isE pL shL (PV.sl xs.length (xs.map PV.str)) = true := isE_mk (enc := pL) h
theorem asL_mk (xs : List ByteArray) : asE pL (PV.sl xs.length (xs.map PV.str)) = xs := asE_mk pL_inj xs
theorem isL_inv {p : PV} (h : isL p = true) : ∃ xs, p = pL xs ∧ shL xs := isE_inv h
theorem strs_beq (xs : List ByteArray) : Nat.beq (xs.map PV.str).length xs.length = true := by rw [List.length_map]; exact Nat.beq_refl _
end Go.Proofs.Ytdegegajoccdjaa
