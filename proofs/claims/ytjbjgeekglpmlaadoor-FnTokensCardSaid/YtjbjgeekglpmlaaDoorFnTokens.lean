/- The walk of the law FnTokens, by the reckoner. -/
import Derived.Test.YtjbjgeekglpmlaaDoorDwP
namespace Go.Proofs.YtjbjgeekglpmlaaDoor
open Go.RowKit
set_option linter.unusedVariables false
theorem FnTokens_walk (v : Value) (n : Nat) (l : List PV) (w : World) (hv : PRep w (comTop w) v (.sl n l)) (hw : wfB n l = true) (hgl : Gl w (comTop w)) :
    Calls Tryd.prog 4 #[v] w fun e w' => e = .returned (.bool true) ∧ Below w.heap.size w w' := by
  have hc : Contract Tryd.prog 4 ([.sl n l].map fun p => .cv (.pv p)) (.cv (.pv (.bool true))) [] :=
    fun_okB mix (tabL_ok (l := kab0) ok_kab0) (O := OL lp_ltok) (LO := LO_ltok) ⟨Tryd.func4, by kernel_rfl, by kernel_rfl⟩ (by kernel_rfl) rfl (oneLoop 10 (by kernel_rfl) (by kernel_rfl) (by kernel_rfl) (by
      intro ls e ls' hl
      unfold LO_ltok at hl
      split at hl
      · rename_i s x e1 n l t i
        obtain ⟨hc, he⟩ := pick1 hl
        cases he
        simp only [Bool.and_eq_true, decide_eq_true_eq, beq_iff_eq] at hc
        obtain ⟨⟨⟨⟨⟨⟨⟨h1, h2⟩, h3⟩, h4⟩, h5⟩, h6⟩, h7⟩, h8⟩ := hc
        have ht : t = bs (s.data.toList.take 0) := by
          rw [← bs_self t, List.take_zero]
          congr 1
          exact List.length_eq_zero_iff.1 (by rw [len_size]; exact h8)
        rw [Nat.eq_of_beq_eq_true h1, Nat.eq_of_beq_eq_true h2, Nat.eq_of_beq_eq_true h5, sameL_eq h6, h7, ht]
        exact ltok_loop s h4 _ 0 0 (Nat.le_refl _) (Nat.zero_le _) (Nat.le_refl _) h3 rfl (by show cntF 0 s.data.toList + 1 = 0 + cntF 0 (SL s 0) + 1; rw [Nat.zero_add]; rfl)
      · cases hl)) (ltok_any n l hw)
  exact hc.lawTop (w := w) (vals := [v]) (PReps.cons hv (PReps.nil _ _)) hgl
end Go.Proofs.YtjbjgeekglpmlaaDoor
