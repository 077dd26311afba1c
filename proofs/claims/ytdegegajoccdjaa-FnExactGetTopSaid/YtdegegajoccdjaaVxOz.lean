/- A law's arguments and the package variables, opened for the reckoner. -/
import Derived.Test.YtdegegajoccdjaaVx3
import Derived.Test.YtdegegajoccdjaaDrD
import Derived.ChangeSlices
import Derived.WideShapes
import Derived.OpenShut
namespace Go.Proofs.Ytdegegajoccdjaa
open Go.RowKit Go.ChangeShapes Go.WideShapes
set_option linter.unusedVariables false
set_option linter.unusedSimpArgs false

theorem row_top {w : World} {b : Nat} {xs : List Value} (h : ∃ t f, w.heap[b]? = some (.cells xs.toArray t f)) : GlRow w (comTop w) b xs := by
  obtain ⟨t, f, h⟩ := h
  refine ⟨⟨t, f, h⟩, ?_⟩
  unfold comTop
  rw [h]
  simp
theorem tabIs_row {w : World} {name : String} {g : Nat} {k : IntKind} {zs : List Int} (hg : Try.prog.globalNamed name = some g) (h : Lib.TabIs Try.prog w name k zs) : GlRow w (comTop w) g (zs.map fun z => Value.int k z) := by
  unfold Lib.TabIs World.var? at h
  rw [hg] at h
  dsimp only [Option.bind_some] at h
  split at h
  · rename_i cs t f hb
    cases h
    exact row_top ⟨t, f, hb⟩
  · cases h
theorem gl_top {w : World}
  : Gl w (comTop w) := by
  unfold Gl
  trivial
/-- Bytes as an argument of a law. -/
theorem bytes_pv {w : World} {a : Option Addr} {len cap : Nat} {zs : List Int}
    (h : (a = none ∧ len = 0 ∧ cap = 0 ∧ zs = []) ∨ ∃ x, a = some x ∧ len ≤ cap ∧ cap ≤ maxLen ∧ zs.length = cap ∧ (∀ i, i < zs.length → w.cell? (x.add i) = some (.int .u8 (zs.getD i 0))) ∧ ∀ n ∈ zs, (Lit.int .u8 n).wf = true) :
    ∃ n l, PRep w (comTop w) (.slice a len cap) (.sl n l) ∧ wfB n l = true := by
  rcases h with ⟨rfl, rfl, rfl, rfl⟩ | ⟨x, rfl, hlc, hm, hz, hc, hw⟩
  · exact ⟨0, [], .sl0 none 0, rfl⟩
  · by_cases h0 : len = 0
    · subst h0
      exact ⟨0, [], .sl0 _ _, rfl⟩
    obtain ⟨b, off, spot⟩ := x
    have hc0 := hc 0 (by omega)
    have hspot : spot = none := by simpa [Addr.add] using World.cell?_spot hc0
    subst hspot
    have hcell : ∀ i, i < zs.length → w.cell? ⟨b, off + i, none⟩ = some (.int .u8 (zs.getD i 0)) := by
      intro i hi
      have := hc i hi
      have ea : (⟨b, off, none⟩ : Addr).add i = ⟨b, off + i, none⟩ := by unfold Addr.add; split <;> simp_all
      rwa [ea] at this
    have hr : ∀ z ∈ zs, 0 ≤ z ∧ z < 256 := by
      intro z hzm
      have hb := bounds_u8 (hw z hzm)
      omega
    refine ⟨len, (zs.take len).map fun z => .int .u8 z, .sl b off len cap ((zs.take len).map fun z => .int .u8 z) _ hlc (by simp) (fun v hv => ?_) (fun i hi => ?_) (fun i v hv => ?_) (fun i h1 h2 => ?_), ?_⟩
    · obtain ⟨z, _, rfl⟩ := List.mem_map.1 hv
      rfl
    · simp at hi
      exact comTop_at (hcell i (by omega))
    · rw [List.getElem?_map, Option.map_eq_some_iff] at hv
      obtain ⟨z, hz', rfl⟩ := hv
      rw [List.getElem?_take] at hz'
      split at hz'
      · have hi := (List.getElem?_eq_some_iff.1 hz').1
        rw [hcell i hi, List.getD_eq_getElem?_getD, hz']
        rfl
      · cases hz'
    · simp only [List.getElem_map]
      exact .int _ _
    · unfold wfB
      rw [Bool.and_eq_true]
      refine ⟨?_, ?_⟩
      · have : ((zs.take len).map fun z => PV.int .u8 z).length = len := by simp; omega
        rw [this]
        exact Nat.beq_refl _
      · rw [List.all_eq_true]
        intro p hp
        obtain ⟨z, hzm, rfl⟩ := List.mem_map.1 hp
        obtain ⟨h1, h2⟩ := hr z (List.mem_of_mem_take hzm)
        show (decide (IntKind.u8 = IntKind.u8) && decide (0 ≤ z) && decide (z < 256)) = true
        rw [decide_eq_true rfl, decide_eq_true h1, decide_eq_true h2]
        rfl
end Go.Proofs.Ytdegegajoccdjaa
