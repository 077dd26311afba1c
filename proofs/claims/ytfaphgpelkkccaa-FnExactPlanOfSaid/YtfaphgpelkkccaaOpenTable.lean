/- Tables and plans that came in. (Written by wip/gen/typegen.py.) -/
import Derived.Test.YtfaphgpelkkccaaOpenE
import Derived.Test.YtfaphgpelkkccaaTable
import Derived.KernelRfl
namespace Go.Proofs.Ytfaphgpelkkccaa
open Go.RowKit Go.ChangeShapes Go.WideShapes Go.Deep Go.Joins
set_option linter.unusedVariables false

section
variable {H : Type} {enc : TypeId × Value → H} {w : World} {base : Nat} {held : Bool}
set_option maxRecDepth 100000 in
/-- A value of the type that came in. -/
theorem open_Table {r : Reach} {b0 : Nat} {v : Value} {d : DataW H} {p : List MemPlace} (hv : Value.okWide Try.prog w r b0 35 v) (h : DataW.Trod enc Try.prog w base (fun _ => true) held 35 v d p) :
    ∃ x, TableAt w v x ∧ TableWf x := by
  obtain ⟨v0, v1, v2, v3, y0, y1, y2, y3, n, rfl, _, _, t0, t1, t2, t3⟩ := open_agg4 Try.underlying35 (by kernel_rfl) (by kernel_rfl) hv h
  obtain ⟨d0, rfl, m0⟩ := open_string_cell Try.underlying9 t0
  obtain ⟨d1, rfl, m1⟩ := open_string_cell Try.underlying9 t1
  obtain ⟨d2, e2, m2⟩ := open_strs_E Try.underlying22 Try.underlying9 (by kernel_rfl) t2
  obtain ⟨d3, e3, m3⟩ := open_strs_E Try.underlying22 Try.underlying9 (by kernel_rfl) t3
  (try unfold maxLen at *)
  exact ⟨⟨d0, d1, d2, d3⟩, ⟨_, rfl, ⟨_, _, rfl, e2, e3⟩⟩, ⟨m0, m1, m2, m3⟩⟩
set_option maxRecDepth 100000 in
/-- A value of the type that came in. -/
theorem open_Plan {r : Reach} {b0 : Nat} {v : Value} {d : DataW H} {p : List MemPlace} (hv : Value.okWide Try.prog w r b0 47 v) (h : DataW.Trod enc Try.prog w base (fun _ => true) held 47 v d p) :
    ∃ x, PlanAt w v x ∧ PlanWf x := by
  obtain ⟨v0, v1, v2, y0, y1, y2, n, rfl, _, _, t0, t1, t2⟩ := open_agg3 Try.underlying47 (by kernel_rfl) (by kernel_rfl) hv h
  obtain ⟨d0, rfl, _⟩ := open_int_cell Try.underlying2 t0
  obtain ⟨d1, rfl, m1⟩ := open_string_cell Try.underlying9 t1
  obtain ⟨d2, rfl, m2⟩ := open_string_cell Try.underlying9 t2
  (try unfold maxLen at *)
  exact ⟨⟨d0, d1, d2⟩, ⟨_, rfl, rfl⟩, ⟨m1, m2⟩⟩
end
end Go.Proofs.Ytfaphgpelkkccaa
