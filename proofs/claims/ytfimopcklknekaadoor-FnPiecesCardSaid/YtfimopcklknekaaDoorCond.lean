/- Conditions of queries: slices of structs of three cells. -/
import Derived.Test.YtfimopcklknekaaDoorEqs
namespace Go.Proofs.YtfimopcklknekaaDoor
open Go.RowKit
set_option linter.unusedVariables false

/-- A condition: a column, an operation, a value. -/
abbrev CondV := ByteArray × Int × ByteArray

def condCell (c : CondV) : List Value := [.string c.1, .int .i64 c.2.1, .string c.2.2]
def condAgg (c : CondV) : Value := .agg #[.string c.1, .int .i64 c.2.1, .string c.2.2]
def condCells (xs : List CondV) : List Value := xs.flatMap condCell

theorem flat3 {α β : Type} (f : α → List β) (hf : ∀ x, (f x).length = 3) : ∀ (xs : List α) (i j : Nat) (hi : i < xs.length), j < 3 → (xs.flatMap f)[i * 3 + j]? = (f xs[i])[j]?
  | [], i, j, hi, _ => by simp at hi
  | x :: xs, 0, j, _, hj => by
    rw [List.flatMap_cons, List.getElem?_append_left (by rw [hf]; omega)]
    simp
  | x :: xs, i + 1, j, hi, hj => by
    have hi' : i < xs.length := by simpa using hi
    rw [List.flatMap_cons, List.getElem?_append_right (by rw [hf]; omega), hf, show (i + 1) * 3 + j - 3 = i * 3 + j from by omega, flat3 f hf xs i j hi' hj]
    simp
theorem flat3_length {α β : Type} (f : α → List β) (hf : ∀ x, (f x).length = 3) : ∀ (xs : List α), (xs.flatMap f).length = xs.length * 3
  | [] => by simp
  | x :: xs => by rw [List.flatMap_cons, List.length_append, hf, flat3_length f hf xs, List.length_cons]; omega

theorem condCells_length (xs : List CondV) : (condCells xs).length = xs.length * 3 := flat3_length _ (fun _ => rfl) xs
theorem condCells_at {xs : List CondV} {i : Nat} (h : i < xs.length) (j : Nat) (hj : j < 3) : (condCells xs)[i * 3 + j]? = (condCell xs[i])[j]? := flat3 _ (fun _ => rfl) xs i j h hj

theorem RowAt.cond {w : World} {B : Nat} {a : Option Addr} {xs : List CondV} (h : RowAt w B a (condCells xs)) (hne : 0 < xs.length) :
    ∃ b off, a = some ⟨b, off, none⟩ ∧ b < B ∧ ∀ i (hi : i < xs.length), w.cell? ⟨b, off + i * 3, none⟩ = some (.string xs[i].1) ∧ w.cell? ⟨b, off + i * 3 + 1, none⟩ = some (.int .i64 xs[i].2.1) ∧ w.cell? ⟨b, off + i * 3 + 1 + 1, none⟩ = some (.string xs[i].2.2) := by
  obtain ⟨b, off, ha, hb, hc⟩ := h (by rw [condCells_length]; omega)
  refine ⟨b, off, ha, hb, fun i hi => ⟨?_, ?_, ?_⟩⟩
  · have := hc (i * 3 + 0) _ (condCells_at hi 0 (by omega))
    simpa using this
  · have := hc (i * 3 + 1) _ (condCells_at hi 1 (by omega))
    rw [← Nat.add_assoc] at this
    exact this
  · have := hc (i * 3 + 2) _ (condCells_at hi 2 (by omega))
    rw [← Nat.add_assoc] at this
    exact this

def condNeed (c : CondV) : Nat := c.1.size + c.2.2.size
def condsNeed (xs : List CondV) : Nat := xs.length + (xs.map condNeed).sum

set_option maxHeartbeats 1000000 in
theorem szCond_any (c : CondV) (left : Int) (w : World) (h0 : 0 ≤ left) (h1 : left ≤ 1048576) (hc : c.1.size ≤ 9223372036854775807) (hv : c.2.2.size ≤ 9223372036854775807) :
    Calls Tryd.prog 29 #[condAgg c, .int .i64 left] w (SzPost (condNeed c) left w) := by
  obtain ⟨col, op, val⟩ := c
  simp only [condAgg, condNeed] at *
  by_cases c1 : left < col.size
  · go_enter Tryd.func29, Tryd.ntmps29
    go_wp2_with fail
    go_ret
    exact ⟨-1, .inr ⟨by omega, rfl⟩, rfl, (Below.refl _ _).alloc (Nat.le_refl _) _⟩
  · by_cases c2 : left - col.size < val.size
    · go_enter Tryd.func29, Tryd.ntmps29
      go_wp2_with fail
      go_ret
      exact ⟨-1, .inr ⟨by omega, rfl⟩, rfl, (Below.refl _ _).alloc (Nat.le_refl _) _⟩
    · go_enter Tryd.func29, Tryd.ntmps29
      go_wp2_with fail
      go_ret
      exact ⟨_, .inl ⟨by omega, by omega⟩, rfl, (Below.refl _ _).alloc (Nat.le_refl _) _⟩

theorem needs_take_succ (xs : List CondV) (k : Nat) (h : k < xs.length) : ((xs.take (k + 1)).map condNeed).sum = ((xs.take k).map condNeed).sum + condNeed xs[k] := by
  rw [List.take_succ_eq_append_getElem h, List.map_append, List.sum_append]
  simp only [List.map_cons, List.map_nil, List.sum_cons, List.sum_nil]
  omega
theorem needs_take_le (xs : List CondV) (k : Nat) : ((xs.take k).map condNeed).sum ≤ (xs.map condNeed).sum := by
  have h : (xs.map condNeed).sum = ((xs.take k).map condNeed).sum + ((xs.drop k).map condNeed).sum := by
    rw [← List.sum_append, ← List.map_append, List.take_append_drop]
  omega


/-- A value comes back; nothing that was there is changed. -/
def ValPost (v : Value) (w : World) (e : Ending) (w' : World) : Prop := e = .returned v ∧ Below w.heap.size w w'

set_option maxHeartbeats 1000000 in
theorem toCond_any (c : CondV) (w : World) :
    Calls Tryd.prog 31 #[condAgg c] w (ValPost (condAgg c) w) := by
  obtain ⟨col, op, val⟩ := c
  simp only [condAgg] at *
  go_enter Tryd.func31, Tryd.ntmps31
  go_wp2_with fail
  refine bodyPost_ret (v := .agg #[.string col, .int .i64 op, .string val]) (by simp [results, Tryd.results31, go_sem]) rfl ⟨rfl, ?_⟩
  exact (((Below.refl _ _).alloc (Nat.le_refl _) _).alloc (by simp) _).alloc (by simp; omega) _

theorem cond_info : (Tryd.prog.info? 50).map (fun i => (i.zero, i.size, i.bytes)) = some (some (.agg #[.string ⟨#[]⟩, .int .i64 0, .string ⟨#[]⟩]), 3, 40) := by kernel_rfl

theorem Filled.put3 {w : World} {g : Nat} {t : TypeId} {n k : Nat} {cs : List Value} (h : Filled w g t (n * 3) (k * 3) cs) {v0 v1 v2 : Value} (hk : k < n)
    (h0 : cs[k * 3 + 0]? = some v0) (h1 : cs[k * 3 + 1]? = some v1) (h2 : cs[k * 3 + 2]? = some v2) :
    Filled (((w.setCell ⟨g, k * 3, none⟩ v0).setCell ⟨g, k * 3 + 1, none⟩ v1).setCell ⟨g, k * 3 + 1 + 1, none⟩ v2) g t (n * 3) ((k + 1) * 3) cs := by
  have a0 := h.put (by omega) h0
  have a1 := a0.put (by omega) h1
  have a2 := a1.put (by omega) h2
  rw [show (k + 1) * 3 = k * 3 + 1 + 1 + 1 from by omega]
  exact a2


end Go.Proofs.YtfimopcklknekaaDoor
