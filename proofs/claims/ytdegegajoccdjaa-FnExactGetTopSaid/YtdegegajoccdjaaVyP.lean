/- strings.Builder's writing methods, by the reckoner: proofs. -/
import Derived.Test.YtdegegajoccdjaaVyT
namespace Go.Proofs.Ytdegegajoccdjaa
open Go.RowKit
set_option linter.unusedVariables false
set_option linter.unusedSimpArgs false
set_option maxRecDepth 100000

theorem ok_vyb0 : EntriesOk Try.prog vyb0 := ⟨ok_copyCheck, trivial⟩
theorem bytesP_beq (s : ByteArray) : Nat.beq (bytesP s).length (s.size * 1) = true := by rw [bytesP_len, Nat.mul_one]; exact Nat.beq_refl _
theorem ok_bldWrite : EntryOk Try.prog 46 E_bldWrite := entry_of mix ok_vyb0 (lp := lp_ws) (LO := LO0) ⟨Try.func46, by kernel_rfl, by kernel_rfl⟩ (by kernel_rfl) fun ivs res bxs h => by
  unfold E_bldWrite at h
  split at h
  · rename_i a s
    obtain ⟨hc, he⟩ := pick1 h
    cases he
    obtain ⟨k0, k1⟩ := andE hc
    obtain rfl := Nat.eq_of_beq_eq_true k0
    have k1 := holds_inv k1
    refine ⟨noLoop (by kernel_rfl), (q_ws0_eq s).trans ?_⟩
    rw [bytesP_beq, dT (show s.size ≤ 140737488351232 by omega), dT (show s.size * 1 ≤ 140737488355328 by omega)]
    rfl
  · rename_i a e n l s
    obtain ⟨hc, he⟩ := pick1 h
    cases he
    obtain ⟨hc, k3⟩ := andE hc
    obtain ⟨hc, k2⟩ := andE hc
    obtain ⟨k0, k1⟩ := andE hc
    obtain rfl := Nat.eq_of_beq_eq_true k0
    obtain rfl := Nat.eq_of_beq_eq_true k1
    obtain ⟨t, q_t, h_t⟩ := isE_inv k2
    injection q_t with qa qb
    subst qa
    subst qb
    have e_t : asBy (.sl t.size (bytesP t)) = t := asBy_mk t
    rw [e_t] at k3 ⊢
    have k3 := holds_inv k3
    refine ⟨noLoop (by kernel_rfl), (q_ws_eq t s).trans ?_⟩
    rw [bytesP_beq, dT (show t.size + s.size ≤ 140737488351232 by omega), dT (show (t.size + s.size) * 1 ≤ 140737488355328 by omega), bytesP_app, show t.size + s.size = (t ++ s).size from ByteArray.size_append.symm]
    rfl
  · cases h
end Go.Proofs.Ytdegegajoccdjaa
