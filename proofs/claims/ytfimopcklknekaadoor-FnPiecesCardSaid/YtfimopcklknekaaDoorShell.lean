/- From the shell's word on a slice of bytes to mine. -/
import Derived.Test.YtfimopcklknekaaDoorSrc
import Derived.OpenShut
namespace Go.Proofs.YtfimopcklknekaaDoor
open Go.RowKit
set_option linter.unusedVariables false

theorem lt_of_cell {w : World} {p : Addr} {v : Value} (h : w.cell? p = some v) : p.block < w.heap.size := by
  rcases Nat.lt_or_ge p.block w.heap.size with hlt | hge
  · exact hlt
  · have : w.heap[p.block]? = none := Array.getElem?_eq_none hge
    simp [World.cell?, this] at h

theorem bytes_of_row {w : World} {a : Option Addr} {len cap : Nat} {zs : List Int}
    (h : (a = none ∧ len = 0 ∧ cap = 0 ∧ zs = []) ∨ ∃ x, a = some x ∧ len ≤ cap ∧ cap ≤ maxLen ∧ zs.length = cap ∧ (∀ i, i < zs.length → w.cell? (x.add i) = some (.int .u8 (zs.getD i 0))) ∧ ∀ n ∈ zs, (Lit.int .u8 n).wf = true) :
    BytesAt w w.heap.size a len := by
  intro hl
  rcases h with ⟨_, h0, _⟩ | ⟨x, rfl, hlc, hm, hz, hc, hw⟩
  · omega
  · obtain ⟨b, off, spot⟩ := x
    have h0 := hc 0 (by omega)
    have hspot : spot = none := by simpa [Addr.add] using World.cell?_spot h0
    subst hspot
    refine ⟨b, off, rfl, by simpa [Addr.add] using lt_of_cell h0, fun i hi => ?_⟩
    have hci := hc i (by omega)
    have hmem : zs.getD i 0 ∈ zs := by
      rw [List.getD_eq_getElem?_getD, List.getElem?_eq_getElem (by omega), Option.getD_some]
      exact List.getElem_mem _
    have hb := bounds_u8 (hw _ hmem)
    obtain ⟨z, hz'⟩ := Int.eq_ofNat_of_zero_le hb.1
    refine ⟨z, by omega, ?_⟩
    rw [← hz', ← hci]
    unfold Addr.add
    split <;> simp_all
end Go.Proofs.YtfimopcklknekaaDoor
