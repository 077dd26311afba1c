/- A condition that came in. -/
import Derived.Test.YtfimopcklknekaaDoorOpen
import Derived.Test.YtfimopcklknekaaDoorCond
import Derived.KernelRfl
namespace Go.Proofs.YtfimopcklknekaaDoor
open Go.RowKit Go.ChangeShapes Go.WideShapes Go.Deep Go.Joins
set_option linter.unusedVariables false
section
variable {H : Type} {enc : TypeId × Value → H} {w : World} {base : Nat} {held : Bool}
set_option maxRecDepth 100000 in
theorem open_Cond {r : Reach} {b0 : Nat} {v : Value} {d : DataW H} {p : List MemPlace} (hv : Value.okWide Tryd.prog w r b0 47 v) (h : DataW.Trod enc Tryd.prog w base (fun _ => true) held 47 v d p) :
    ∃ x : CondV, v = condAgg x ∧ x.1.size ≤ 9223372036854775807 ∧ x.2.2.size ≤ 9223372036854775807 := by
  obtain ⟨v0, v1, v2, y0, y1, y2, n, rfl, _, _, t0, t1, t2⟩ := open_agg3 Tryd.underlying47 (by kernel_rfl) (by kernel_rfl) hv h
  obtain ⟨d0, rfl, m0⟩ := open_string_cell Tryd.underlying9 t0
  obtain ⟨d1, rfl, _⟩ := open_int_cell Tryd.underlying2 t1
  obtain ⟨d2, rfl, m2⟩ := open_string_cell Tryd.underlying9 t2
  (try unfold maxLen at *)
  exact ⟨(d0, d1, d2), rfl, m0, m2⟩
end
end Go.Proofs.YtfimopcklknekaaDoor
