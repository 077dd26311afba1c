/- The law of superblocks, by the reckoner: proofs. -/
import Derived.Test.YtdegegajoccdjaaCcT
import Derived.Test.YtdegegajoccdjaaCbP
import Derived.Test.YtdegegajoccdjaaVxOz
namespace Go.Proofs.Ytdegegajoccdjaa
open Go.RowKit
set_option linter.unusedVariables false
set_option linter.unusedSimpArgs false
set_option maxRecDepth 100000

theorem mark_mark : ∀ (l : List SeT) (k j : Int), markL k (markL j l) = markL k l
  | [], _, _ => rfl
  | x :: t, k, j => by
    show (⟨k, k + 1⟩ : SeT) :: markL (k + 2) (markL (j + 2) t) = ⟨k, k + 1⟩ :: markL (k + 2) t
    rw [mark_mark t]
theorem mark_sh : ∀ (l : List SeT) (k : Int), 0 ≤ k → k + 2 * l.length ≤ 100000 → ∀ x ∈ markL k l, shSe x
  | [], _, _, _, x, hx => by cases hx
  | y :: t, k, h0, h1, x, hx => by
    rw [List.length_cons] at h1
    rcases List.mem_cons.1 hx with rfl | hx
    · unfold shSe; dsimp only; omega
    · exact mark_sh t (k + 2) (by omega) (by omega) x hx
theorem law_true (s : ByteArray) : q_law brC s = some (cB true, []) := by
  refine (q_law_eq s).trans ?_
  by_cases h : s.size ≤ 1048576
  · have hc := cntV_lt (midG s)
    have hlen : (seatsG s).length = cntV (midG s) := seatsOf_len _ _
    have i1 : isSes (.sl (seatsG s).length (encSe (seatsG s))) = true := isSes_mk (seatsOf_sh _ _ (by omega))
    have a1 : asSes (.sl (seatsG s).length (encSe (seatsG s))) = seatsG s := asSes_mk (seatsG s)
    have hml := mark_len 1 (seatsG s)
    have i2 : isSes (.sl (seatsG s).length (encSe (markL 1 (seatsG s)))) = true := by
      have := isSes_mk (t := markL 1 (seatsG s)) ⟨by rw [hml]; omega, mark_sh _ _ (by omega) (by omega)⟩
      rwa [hml] at this
    have a2 : asSes (.sl (seatsG s).length (encSe (markL 1 (seatsG s)))) = markL 1 (seatsG s) := by
      have := asSes_mk (markL 1 (seatsG s))
      rwa [hml] at this
    have hh : holds (markL 1 (seatsG s) = markL 1 (markL 1 (seatsG s))) = true := holds_mk (mark_mark (seatsG s) 1 1).symm
    have hh2 : holds (seatsG s = seatsG s) = true := holds_mk rfl
    rw [dF (show ¬ (s.size : Int) > 1048576 by omega), dT (show s.size ≤ 2000000 by omega)]
    rw [i1, a1, i2, a2, hh, hml]
    simp only [hh2, beq_self_eq_true, bne_self_eq_false, nilB_mk, show holds True = true from holds_mk trivial]
    generalize okG s = G
    generalize Nat.beq (cntV (midG s)) 0 = Z
    cases G <;> cases Z <;> rfl
  · rw [dT (show (s.size : Int) > 1048576 by omega)]
    rfl
theorem ok_cbb1 (hT : EntryOk Try.prog 27 E_ITop) (hP : EntryOk Try.prog 28 E_IPut) : EntriesOk Try.prog cbb1 := ⟨ok_SGet, ok_IGet hT hP, ok_eqT, ok_markT, ok_heldT, trivial⟩
theorem GetTop_walk (hT : EntryOk Try.prog 27 E_ITop) (hP : EntryOk Try.prog 28 E_IPut) (s : ByteArray) (w : World) (hgl : Gl w (comTop w)) :
    Calls Try.prog 4 #[.string s] w fun e w' => e = .returned (.bool true) ∧ Below w.heap.size w w' := by
  have hc : Contract Try.prog 4 ([.str s].map fun p => .cv (.pv p)) (.cv (.pv (.bool true))) [] :=
    fun_okB mix (tabL_ok (l := cbb1) (ok_cbb1 hT hP)) (O := OL lp_law) (LO := LO0) ⟨Try.func4, by kernel_rfl, by kernel_rfl⟩ (by kernel_rfl) rfl (noLoop (by kernel_rfl)) (law_true s)
  exact hc.lawTop (w := w) (vals := [.string s]) (PReps.cons (.str s) (PReps.nil _ _)) hgl
end Go.Proofs.Ytdegegajoccdjaa
