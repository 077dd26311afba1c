/- A query that came in, opened (with its slices' capacities). -/
import Derived.Test.YtfimopcklknekaaGreatDoorOpen
import Derived.Test.YtfimopcklknekaaGreatDoorQAt
import Derived.KernelRfl
namespace Go.Proofs.YtfimopcklknekaaGreatDoor
open Go.ChangeShapes Go.WideShapes Go.Deep Go.Joins Go.RowKit
set_option linter.unusedVariables false

section
variable {H : Type} {enc : TypeId × Value → H} {w : World} {base : Nat} {held : Bool}

/-- A slice of conditions that came in. -/
theorem open_conds_row {fuel : Nat} {v : Value} {x : DataW H × List MemPlace} (h : DataW.trod enc Tryz.prog w base (fun _ => true) held fuel 23 [v] = some x) :
    ∃ a xs c, v = .slice a (List.length xs) c ∧ List.length xs ≤ c ∧ xs.length ≤ maxLen ∧ (∀ s ∈ xs, s.1.size ≤ maxLen ∧ s.2.2.size ≤ maxLen) ∧ RowAt w w.heap.size a (condCells xs) := by
  rcases open_slice_fields Tryz.underlying23 Tryz.underlying46 (by kernel_rfl) (by kernel_rfl) h with ⟨hcs, _⟩ | ⟨a, len, cap, m, D, Pl, hcs, _, hl, hm, hmm, _, hf⟩
  · injection hcs with hcs _
    exact ⟨none, [], 0, hcs, by simp, by simp, by simp, RowAt.nil⟩
  · injection hcs with hcs _
    simp only [if_true] at hmm
    subst hmm
    have each : ∀ i, i < len → ∃ c : CondV, w.cell? (a.add (i * 3)) = some (.string c.1) ∧ w.cell? (a.add (i * 3 + 1)) = some (.int .i64 c.2.1) ∧ w.cell? (a.add (i * 3 + 2)) = some (.string c.2.2) ∧ c.1.size ≤ maxLen ∧ c.2.2.size ≤ maxLen := by
      intro i hi
      obtain ⟨ys, n, _, _, _, hg⟩ := hf i (by omega)
      obtain ⟨v0, y0, c0, _, t0⟩ := hg 0 _ rfl
      obtain ⟨v1, y1, c1, _, t1⟩ := hg 1 _ rfl
      obtain ⟨v2, y2, c2, _, t2⟩ := hg 2 _ rfl
      obtain ⟨s0, rfl, m0⟩ := open_string_cell Tryz.underlying9 t0
      obtain ⟨n1, rfl, _⟩ := open_int_cell Tryz.underlying2 t1
      obtain ⟨s2, rfl, m2⟩ := open_string_cell Tryz.underlying9 t2
      exact ⟨(s0, n1, s2), c0, c1, c2, m0, m2⟩
    obtain ⟨xs, hxl, hx⟩ := list_of_each _ len each
    refine ⟨some a, xs, _, by rw [hxl]; exact hcs, by omega, by omega, fun s hs => ?_, fun hpos => ?_⟩
    · obtain ⟨i, hi, rfl⟩ := List.getElem_of_mem hs
      exact (hx i hi).2.2.2
    · rw [condCells_length] at hpos
      obtain ⟨b, off, rfl, hb⟩ := addr_plain (a := a) (by simpa using (hx 0 (by omega)).1)
      refine ⟨b, off, rfl, hb, fun i v hv => ?_⟩
      have hi : i < xs.length * 3 := by
        rcases Nat.lt_or_ge i (xs.length * 3) with h | h
        · exact h
        · rw [List.getElem?_eq_none (by rw [condCells_length]; exact h)] at hv; cases hv
      have hdm : i = i / 3 * 3 + i % 3 := by omega
      have hq : i / 3 < xs.length := by omega
      obtain ⟨g0, g1, g2, _⟩ := hx (i / 3) hq
      rw [hdm, condCells_at hq (i % 3) (by omega)] at hv
      rw [hdm, ← add_at]
      have hr : i % 3 = 0 ∨ i % 3 = 1 ∨ i % 3 = 2 := by omega
      rcases hr with e | e | e
      · rw [e] at hv ⊢
        rw [Nat.add_zero, g0]
        exact hv
      · rw [e] at hv ⊢
        rw [g1]
        exact hv
      · rw [e] at hv ⊢
        rw [g2]
        exact hv

set_option maxRecDepth 100000 in
/-- A query that came in. -/
theorem open_Query {r : Reach} {b0 : Nat} {v : Value} {d : DataW H} {p : List MemPlace} (hv : Value.okWide Tryz.prog w r b0 25 v) (h : DataW.Trod enc Tryz.prog w base (fun _ => true) held 25 v d p) :
    ∃ q, QAt w v q ∧ QueryWf q := by
  obtain ⟨v0, v1, v2, v3, v4, v5, y0, y1, y2, y3, y4, y5, n, rfl, _, _, t0, t1, t2, t3, t4, t5⟩ := open_agg6 Tryz.underlying25 (by kernel_rfl) (by kernel_rfl) hv h
  obtain ⟨s0, rfl, m0⟩ := open_string_cell Tryz.underlying9 t0
  obtain ⟨a1, xs, c1, rfl, hc1, hl1, hs1, hr1⟩ := open_strs_cap Tryz.underlying22 Tryz.underlying9 (by kernel_rfl) t1
  obtain ⟨a2, cs, c2, rfl, hc2, hl2, hs2, hr2⟩ := open_conds_row t2
  obtain ⟨s3, rfl, m3⟩ := open_string_cell Tryz.underlying9 t3
  obtain ⟨b4, rfl⟩ := open_bool_cell Tryz.underlying4 t4
  obtain ⟨n5, rfl, _⟩ := open_int_cell Tryz.underlying2 t5
  unfold maxLen at *
  exact ⟨⟨s0, xs, cs, s3, b4, n5⟩, ⟨a1, c1, a2, c2, rfl, hr1, hr2, hc1, hc2⟩, ⟨m0, m3, hl1, hl2, hs1, hs2⟩⟩
end
end Go.Proofs.YtfimopcklknekaaGreatDoor
