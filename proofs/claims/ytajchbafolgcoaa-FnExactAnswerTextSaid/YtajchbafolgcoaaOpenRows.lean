/- Rows of tables that came in. -/
import Derived.Test.YtajchbafolgcoaaOpen
import Derived.Test.YtajchbafolgcoaaTRows
namespace Go.Proofs.Ytajchbafolgcoaa
open Go.ChangeShapes Go.WideShapes Go.Deep Go.Joins Go.RowKit
set_option linter.unusedVariables false

section
variable {H : Type} {enc : TypeId × Value → H} {P : Program} {w : World} {base : Nat} {held : Bool}
/-- A slice of strings that came in, its capacity too. -/
theorem open_strs_cap {t e : TypeId} {fuel : Nat} {v : Value} {x : DataW H × List MemPlace} (ht : P.underlying t = some (.slice e)) (he : P.underlying e = some .string) (hc : P.cellsOf e = 1)
    (h : DataW.trod enc P w base (fun _ => true) held fuel t [v] = some x) :
    ∃ a xs c, v = .slice a xs.length c ∧ xs.length ≤ maxLen ∧ (∀ s ∈ xs, s.size ≤ maxLen) ∧ RowAt w w.heap.size a (strCells xs) ∧ xs.length ≤ c := by
  obtain ⟨a, xs, c, hv, h1, h2, h3⟩ := open_strs_row ht he hc h
  refine ⟨a, xs, c, hv, h1, h2, h3, ?_⟩
  rcases open_strings ht he hc h with ⟨hcs, _⟩ | ⟨a', len, cap, ss, hcs, _, hl, hm, hz, _⟩
  · injection hcs with hcs _
    rw [hv] at hcs
    injection hcs
    omega
  · injection hcs with hcs _
    rw [hv] at hcs
    injection hcs
    omega
end

section
variable {H : Type} {enc : TypeId × Value → H} {w : World} {base : Nat} {held : Bool}
set_option maxRecDepth 100000 in
/-- Rows that came in. -/
theorem open_rows {fuel : Nat} {v : Value} {x : DataW H × List MemPlace} (h : DataW.trod enc Try.prog w base (fun _ => true) held fuel 55 [v] = some x) :
    ∃ a rows c, v = .slice a (List.length rows) c ∧ RowsWf rows ∧ RowsAt w w.heap.size a rows := by
  rcases open_slice_fields Try.underlying55 Try.underlying113 (by kernel_rfl) (by kernel_rfl) h with ⟨hcs, _⟩ | ⟨a, len, cap, m, D, Pl, hcs, _, hl, hm, hmm, _, hi⟩
  · injection hcs with hcs _
    exact ⟨none, [], 0, hcs, ⟨by simp, by simp⟩, [], rfl, RowAt.nil, fun i h1 _ => absurd h1 (by simp)⟩
  · injection hcs with hcs _
    simp only [if_true] at hmm
    have each : ∀ i, i < len → ∃ y : (Option Addr × Nat) × List ByteArray, w.cell? (a.add i) = some (.slice y.1.1 y.2.length y.1.2) ∧ RowAt w w.heap.size y.1.1 (strCells y.2) ∧ y.2.length ≤ y.1.2 ∧ y.2.length ≤ 9223372036854775807 ∧ ∀ s ∈ y.2, s.size ≤ 9223372036854775807 := by
      intro i hlt
      obtain ⟨ys, n, _, _, _, hg⟩ := hi i (by omega)
      obtain ⟨v0, y0, c0, _, t0⟩ := hg 0 _ rfl
      obtain ⟨a1, xs, c1, rfl, hl1, hs1, hr1, hc1⟩ := open_strs_cap Try.underlying28 Try.underlying9 (by kernel_rfl) t0
      unfold maxLen at hl1 hs1
      refine ⟨((a1, c1), xs), ?_, hr1, hc1, hl1, hs1⟩
      simpa using c0
    obtain ⟨zs, hzl, hz⟩ := list_of_each _ len each
    have hlen : (zs.map Prod.snd).length = len := by rw [List.length_map, hzl]
    unfold maxLen at hm
    refine ⟨some a, zs.map Prod.snd, cap, by rw [hlen]; exact hcs, ⟨by omega, fun r hr => ?_⟩, zs.map Prod.fst, by simp, fun hpos => ?_, fun i h1 h2 => ?_⟩
    · obtain ⟨y, hy, rfl⟩ := List.mem_map.1 hr
      obtain ⟨i, hi', rfl⟩ := List.getElem_of_mem hy
      exact (hz i hi').2.2.2
    · have hne : 0 < zs.length := by
        have : (rowCells (zs.map Prod.fst) (zs.map Prod.snd)).length = zs.length := by simp [rowCells]
        omega
      obtain ⟨b, off, rfl, hb⟩ := addr_plain (a := a) (hz 0 hne).1
      refine ⟨b, off, rfl, hb, fun i v hv => ?_⟩
      have hil : i < zs.length := by
        rcases Nat.lt_or_ge i zs.length with h | h
        · exact h
        · rw [List.getElem?_eq_none (by simp [rowCells]; exact h)] at hv; cases hv
      have hc0 := (hz i hil).1
      rw [add_at] at hc0
      rw [hc0]
      simpa [rowCells, List.getElem?_zipWith, List.getElem?_eq_getElem hil] using hv
    · have hil : i < zs.length := by simpa using h1
      simp only [List.getElem_map]
      exact ⟨(hz i hil).2.1, (hz i hil).2.2.1⟩

set_option maxRecDepth 100000 in
/-- The argument itself. -/
theorem open_rows_arg {r : Reach} {b0 : Nat} {v : Value} {d : DataW H} {p : List MemPlace} (hv : Value.okWide Try.prog w r b0 55 v) (h : DataW.Trod enc Try.prog w base (fun _ => true) held 55 v d p) :
    ∃ a rows c, v = .slice a (List.length rows) c ∧ RowsWf rows ∧ RowsAt w w.heap.size a rows := by
  obtain ⟨a, len, cap, rfl⟩ := okWide_slice Try.underlying55 hv
  obtain ⟨fuel, hf⟩ := h
  exact open_rows hf
end
end Go.Proofs.Ytajchbafolgcoaa
