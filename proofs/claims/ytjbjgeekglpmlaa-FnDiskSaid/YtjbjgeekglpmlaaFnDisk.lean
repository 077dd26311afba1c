/- The walk of the law FnDisk, by the reckoner. -/
import Derived.Test.YtjbjgeekglpmlaaHjP
namespace Go.Proofs.Ytjbjgeekglpmlaa
open Go.RowKit
set_option linter.unusedVariables false
set_option maxRecDepth 100000
theorem law_in : ∀ ls e ls', pickA (LO_law 18 ls) = some (e, ls') → LoopsTo (rdB brC Try.prog hjb1 lp_law LO_law Try.f4 18 []) ls (e, ls') := fun ls e ls' hl => by
  unfold LO_law at hl
  split at hl
  · rename_i hh; cases hh
  · split at hl
    · rename_i more x dw da db y fw fa fb z yw ya yb c i t k
      obtain ⟨hc, he⟩ := pick1 hl
      cases he
      simp only [Bool.and_eq_true, beq_iff_eq, Bool.not_eq_true'] at hc
      obtain ⟨⟨⟨⟨⟨⟨⟨g1, g2⟩, g3⟩, g4⟩, g5⟩, g6⟩, g7⟩, g8⟩ := hc
      obtain ⟨d, hd0, hd⟩ := isDk_inv g1
      unfold pDk at hd0
      injection hd0 with hd0
      injection hd0 with u1 hd0
      injection hd0 with u2 hd0
      injection hd0 with u3 _
      injection u1 with _ u1
      subst u1 u2 u3
      obtain ⟨f, hf0, hf⟩ := isDk_inv g2
      unfold pDk at hf0
      injection hf0 with hf0
      injection hf0 with u1 hf0
      injection hf0 with u2 hf0
      injection hf0 with u3 _
      injection u1 with _ u1
      subst u1 u2 u3
      obtain ⟨v, hv0, hv⟩ := isDk_inv g3
      unfold pDk at hv0
      injection hv0 with hv0
      injection hv0 with u1 hv0
      injection hv0 with u2 hv0
      injection hv0 with u3 _
      injection u1 with _ u1
      subst u1 u2 u3
      have e1 : asDk (.agg [.int .i64 d.wide, pL d.secs, pPs d.puts]) = d := asDk_mk d
      rw [e1, Nat.eq_of_beq_eq_true g4, Nat.eq_of_beq_eq_true g5, Nat.eq_of_beq_eq_true g6, g7, g8]
      have := in_loop more d f v hd c i d.puts.length 0 false (by omega)
      rw [List.drop_zero, Bool.false_or] at this
      exact this
    · cases hl
  · cases hl
theorem law_out : ∀ ls e ls', pickA (LO_law 14 ls) = some (e, ls') → LoopsTo (rdB brC Try.prog hjb1 lp_law LO_law Try.f4 14 []) ls (e, ls') := fun ls e ls' hl => by
  unfold LO_law at hl
  split at hl
  · split at hl
    · rename_i more x dw da db y fw fa fb z yw ya yb c i
      obtain ⟨hc, he⟩ := pick1 hl
      cases he
      simp only [Bool.and_eq_true, beq_iff_eq] at hc
      obtain ⟨⟨⟨⟨⟨⟨⟨⟨⟨g1, g2⟩, g3⟩, g4⟩, g5⟩, g6⟩, g7⟩, g8⟩, g9⟩, g10⟩ := hc
      obtain ⟨d, hd0, hd⟩ := isDk_inv g1
      unfold pDk at hd0
      injection hd0 with hd0
      injection hd0 with u1 hd0
      injection hd0 with u2 hd0
      injection hd0 with u3 _
      injection u1 with _ u1
      subst u1 u2 u3
      obtain ⟨f, hf0, hf⟩ := isDk_inv g2
      unfold pDk at hf0
      injection hf0 with hf0
      injection hf0 with u1 hf0
      injection hf0 with u2 hf0
      injection hf0 with u3 _
      injection u1 with _ u1
      subst u1 u2 u3
      obtain ⟨v, hv0, hv⟩ := isDk_inv g3
      unfold pDk at hv0
      injection hv0 with hv0
      injection hv0 with u1 hv0
      injection hv0 with u2 hv0
      injection hv0 with u3 _
      injection u1 with _ u1
      subst u1 u2 u3
      have e1 : asDk (.agg [.int .i64 d.wide, pL d.secs, pPs d.puts]) = d := asDk_mk d
      have e2 : asDk (.agg [.int .i64 f.wide, pL f.secs, pPs f.puts]) = f := asDk_mk f
      have e3 : asDk (.agg [.int .i64 v.wide, pL v.secs, pPs v.puts]) = v := asDk_mk v
      rw [e1] at g4 g5 g6
      rw [e2] at g5
      rw [e3] at g6
      obtain rfl := holds_inv g5
      rw [Nat.eq_of_beq_eq_true g7, Nat.eq_of_beq_eq_true g8, Nat.eq_of_beq_eq_true g9, g10]
      exact out_loop more d v hd hf hv g4 c (holds_inv g6) d.secs.length 0 (by omega)
    · cases hl
  · rename_i hh; cases hh
  · cases hl
theorem FnDisk_walk (v : Value) (n : Nat) (l : List PV) (v' : Value) (m : Nat) (k : List PV) (w : World) (hv : PRep w (comTop w) v (.sl n l)) (hw : wfB n l = true) (hv' : PRep w (comTop w) v' (.sl m k)) (hw' : wfB m k = true) (hgl : Gl w (comTop w)) :
    Calls Try.prog 4 #[v, v'] w fun e w' => e = .returned (.bool true) ∧ Below w.heap.size w w' := by
  have hin : ∀ b ∈ loopsIn (loopAt 14 Try.f4), LoopOk Try.prog (tabL hjb1) (OL lp_law) Try.f4.ntmps (pbOf []) LO_law b := by
    rw [show loopsIn (loopAt 14 Try.f4) = [loopAt 18 Try.f4] by kernel_rfl]
    intro b hb
    rw [List.mem_singleton.1 hb]
    refine loopOk_of (noLoop (by kernel_rfl)) fun key hk => ?_
    rw [show firstR (loopAt 18 Try.f4) = some 18 by kernel_rfl] at hk
    cases hk
    exact law_in
  have hc : Contract Try.prog 4 ([.sl n l, .sl m k].map fun p => .cv (.pv p)) (.cv (.pv (.bool true))) [] :=
    fun_okB mix (tabL_ok (l := hjb1) ok_hjb1) (O := OL lp_law) (LO := LO_law) ⟨Try.func4, by kernel_rfl, by kernel_rfl⟩ (by kernel_rfl) rfl (manyLoops [14, 18] (by kernel_rfl) (fun k hk => by
      rcases List.mem_cons.1 hk with rfl | hk
      · kernel_rfl
      · rw [List.mem_singleton.1 hk]; kernel_rfl) (fun k hk => by
      rcases List.mem_cons.1 hk with rfl | hk
      · exact ⟨hin, law_out⟩
      · rw [List.mem_singleton.1 hk]; exact ⟨noLoop (by kernel_rfl), law_in⟩)) (law_any n m l k hw hw')
  exact hc.lawTop (w := w) (vals := [v, v']) (PReps.cons hv (PReps.cons hv' (PReps.nil _ _))) hgl
end Go.Proofs.Ytjbjgeekglpmlaa
