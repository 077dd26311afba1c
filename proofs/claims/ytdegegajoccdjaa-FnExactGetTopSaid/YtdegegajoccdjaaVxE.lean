/- More helpers for functions by the reckoner: conditions taken apart, lists of numbers. -/
import Derived.Test.YtdegegajoccdjaaVxC
namespace Go.Proofs.Ytdegegajoccdjaa
open Go.RowKit
set_option linter.unusedVariables false
set_option linter.unusedSimpArgs false

theorem andE {a b : Bool} (h : (a && b) = true) : a = true ∧ b = true := by
  cases a <;> cases b <;> simp_all
theorem pick3n {α : Type} {a b c : Bool} {x y z q : α} (h : pickA [(a, x), (b, y), (c, z)] = some q) : (a = true ∧ x = q) ∨ (a = false ∧ b = true ∧ y = q) ∨ (a = false ∧ b = false ∧ c = true ∧ z = q) := by
  cases a with
  | true => cases h; exact .inl ⟨rfl, rfl⟩
  | false => exact .inr ((pick2 h).elim (fun k => .inl ⟨rfl, k⟩) (fun k => .inr ⟨rfl, k⟩))
/-- The first that is wanted. -/
def idxV {α : Type} (p : α → Bool) (xs : List α) : Nat := (xs.takeWhile fun x => !p x).length
theorem idxV_in {α : Type} {p : α → Bool} {x : α} {t : List α} (h : p x = true) : idxV p (x :: t) = 0 := by unfold idxV; rw [List.takeWhile_cons, h]; rfl
theorem idxV_out {α : Type} {p : α → Bool} {x : α} {t : List α} (h : p x = false) : idxV p (x :: t) = idxV p t + 1 := by unfold idxV; rw [List.takeWhile_cons, h]; rfl
theorem idxV_le {α : Type} (p : α → Bool) (t : List α) : idxV p t ≤ t.length := by unfold idxV; exact (List.takeWhile_sublist _).length_le
theorem idxV_any {α : Type} (p : α → Bool) : ∀ t : List α, decide (idxV p t < t.length) = t.any p
  | [] => rfl
  | x :: t => by
    rw [List.any_cons]
    cases h : p x with
    | true => rw [idxV_in h]; simp
    | false => rw [idxV_out h, Bool.false_or, ← idxV_any p t, List.length_cons]; simp
theorem ifIdxV (k n : Nat) : decide ((if k < n then (k : Int) else -1) ≥ 0) = decide (k < n) := by
  by_cases h : k < n
  · rw [if_pos h, dT h, dT (by omega)]
  · rw [if_neg h, dF h, dF (by omega)]
theorem ble4 (n : Nat) : Nat.ble 4 (n + 1 + 1 + 1 + 1) = true := Nat.ble_eq_true_of_le (by omega)
theorem ble5 (n : Nat) : Nat.ble 5 (n + 1 + 1 + 1 + 1 + 1) = true := Nat.ble_eq_true_of_le (by omega)
theorem ble6 (n : Nat) : Nat.ble 6 (n + 1 + 1 + 1 + 1 + 1 + 1) = true := Nat.ble_eq_true_of_le (by omega)
theorem holds_true : holds True = true := holds_mk trivial
/-! Lists of numbers. -/
abbrev pI (xs : List Int) : PV := .sl xs.length (xs.map (PV.int .i64))
theorem map_int_inj : ∀ {xs ys : List Int}, xs.map (PV.int .i64) = ys.map (PV.int .i64) → xs = ys
  | [], [], _ => rfl
  | [], _ :: _, h => by cases h
  | _ :: _, [], h => by cases h
  | x :: xs, y :: ys, h => by
    rw [List.map_cons, List.map_cons] at h
    injection h with h1 h2
    injection h1 with _ h1
    rw [h1, map_int_inj h2]
theorem pI_inj (xs ys : List Int) (h : pI xs = pI ys) : xs = ys := by
  injection h with _ h
  exact map_int_inj h
theorem drop_ints (xs : List Int) (i : Nat) (h : i < xs.length) : (xs.map (PV.int .i64)).drop (i * 1) = .int .i64 xs[i] :: (xs.drop (i + 1)).map (PV.int .i64) := by
  rw [Nat.mul_one, ← List.map_drop, List.drop_eq_getElem_cons h]
  rfl
def shI (xs : List Int) : Prop := xs.length ≤ 100000 ∧ ∀ s ∈ xs, -9223372036854775808 ≤ s ∧ s ≤ 9223372036854775807
noncomputable abbrev isI (p : PV) : Bool := isE pI shI p
noncomputable abbrev asI (p : PV) : List Int := asE pI p
theorem isI_mk {xs : List Int} (h : shI xs) : isE pI shI (PV.sl xs.length (xs.map (PV.int .i64))) = true := isE_mk (enc := pI) h
theorem asI_mk (xs : List Int) : asE pI (PV.sl xs.length (xs.map (PV.int .i64))) = xs := asE_mk pI_inj xs
theorem ints_beq (xs : List Int) : Nat.beq (xs.map (PV.int .i64)).length xs.length = true := by rw [List.length_map]; exact Nat.beq_refl _
end Go.Proofs.Ytdegegajoccdjaa
