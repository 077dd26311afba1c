/- Slices of texts that came in, in the uniform words; structs of one to four one-cell fields. -/
import Derived.Test.YtfaphgpelkkccaaOpen
import Derived.Test.YtfaphgpelkkccaaStrsQ
namespace Go.Proofs.Ytfaphgpelkkccaa
open Go.ChangeShapes Go.WideShapes Go.Deep Go.Joins Go.RowKit
set_option linter.unusedVariables false
section
variable {H : Type} {enc : TypeId × Value → H} {P : Program} {w : World} {base : Nat} {held : Bool}
theorem open_strs_E {t e : TypeId} {fuel : Nat} {v : Value} {x : DataW H × List MemPlace} (ht : P.underlying t = some (.slice e)) (he : P.underlying e = some .string) (hc : P.cellsOf e = 1)
    (h : DataW.trod enc P w base (fun _ => true) held fuel t [v] = some x) : ∃ xs, strsE w 0 w.heap.size [v] xs ∧ StrsWf xs := by
  obtain ⟨a, xs, c, rfl, hcap, hl, hs, hr⟩ := open_strs_cap ht he hc h
  unfold maxLen at *
  exact ⟨xs, ⟨a, c, rfl, hcap, RowIn.of_at hr⟩, hl, hs⟩
end
end Go.Proofs.Ytfaphgpelkkccaa
