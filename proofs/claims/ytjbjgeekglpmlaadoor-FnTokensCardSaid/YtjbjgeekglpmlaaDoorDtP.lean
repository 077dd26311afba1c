/- Lines of characters drawn, by the reckoner: proofs. -/
import Derived.Test.YtjbjgeekglpmlaaDoorDtT
namespace Go.Proofs.YtjbjgeekglpmlaaDoor
open Go.RowKit
set_option linter.unusedVariables false
set_option linter.unusedSimpArgs false
theorem ok_dab4' : EntriesOk Tryd.prog dab4 := ⟨ok_line, ok_dab3⟩
theorem ok_chars : EntryOk Tryd.prog 7 E_chars := entry_of mix ok_dab4' (lp := []) (LO := LO0) ⟨Tryd.func7, by kernel_rfl, by kernel_rfl⟩ (by kernel_rfl) fun ivs res bxs h => by
  unfold E_chars at h
  split at h
  · rename_i n l
    obtain ⟨hc, he⟩ := pick1 h
    cases he
    rw [Bool.and_eq_true] at hc
    refine ⟨noLoop (by kernel_rfl), (q_chars_eq n l).trans ?_⟩
    have := srcOk_mk (k := 0) hc.1 (by omega) (of_decide_eq_true hc.2)
    have e : srcOk n l 0 0 = true := this
    rw [e]
    rfl
  · cases h
end Go.Proofs.YtjbjgeekglpmlaaDoor
