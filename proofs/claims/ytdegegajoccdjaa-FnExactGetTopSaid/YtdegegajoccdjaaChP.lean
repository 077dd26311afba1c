/- Seats are those of a superblock: the program's contract. -/
import Derived.Test.YtdegegajoccdjaaCgW
namespace Go.Proofs.Ytdegegajoccdjaa
open Go.RowKit
set_option linter.unusedVariables false
set_option linter.unusedSimpArgs false

theorem seatsB_eq (l : List SeT) : (seatsC [] l && decide (l.length ≤ 64)) = seatsB l := by
  unfold seatsB
  by_cases h : l.length ≤ 64
  · rw [List.take_of_length_le (by omega)]
  · rw [decide_eq_false h, Bool.and_false, Bool.and_false]
theorem encSe_get : ∀ (l : List SeT) (i : Nat) (h : i < l.length), (encSe l)[i * 2]? = some (.int .i64 l[i].id) ∧ (encSe l)[i * 2 + 1]? = some (.int .i64 l[i].slot)
  | [], i, h => by cases h
  | x :: t, 0, h => ⟨rfl, rfl⟩
  | x :: t, i + 1, h => by
    have := encSe_get t i (by simpa using h)
    rw [show (i + 1) * 2 = i * 2 + 1 + 1 by omega]
    exact this
theorem add0 (g j : Nat) : (⟨g, 0, none⟩ : Addr).add j = ⟨g, j, none⟩ := by unfold Addr.add; split <;> simp_all
theorem ok_seatsOk : EntryOk Try.prog 45 E_seatsOk := ⟨⟨_, Try.func45, by kernel_rfl, by kernel_rfl⟩, fun ivs res bxs h => by
  unfold E_seatsOk at h
  split at h
  · rename_i e n l
    obtain ⟨hc, he⟩ := pick1 h
    cases he
    obtain ⟨k0, k1⟩ := andE hc
    obtain ⟨t, q_t, h_t⟩ := isE_inv k0
    injection q_t with qa qb
    subst qa
    subst qb
    obtain rfl := Nat.eq_of_beq_eq_true k1
    have e_t : asSes (.sl _ _) = t := asSes_mk t
    rw [e_t]
    refine contract_lk (gg := false) (v := .bool (seatsB t)) rfl fun w com c1 u c2 xs h1 hL h2 hf hgl => ?_
    show Calls Try.prog 45 #[u] w _
    have hcell := fun g => hL.own.cells (g := g)
    rcases hL.own.2 with ⟨rfl, h0⟩ | ⟨g, cap, cur, rfl, _, hg, hcap, _⟩
    · have : t = [] := List.length_eq_zero_iff.1 h0
      subst this
      exact seatsOk_none none 0 w
    · have hlt : g < w.heap.size := (Array.getElem?_eq_some_iff.1 hg).1
      have := seatsOk_some g cap t w h_t.1 h_t hlt (fun j hj => by
        obtain ⟨e1, e2⟩ := encSe_get t j hj
        obtain ⟨v1, x1, p1⟩ := hL.reps.get e1
        obtain ⟨v2, x2, p2⟩ := hL.reps.get e2
        cases p1
        cases p2
        exact ⟨(add0 g (j * 2)) ▸ hcell g rfl _ _ x1, (add0 g (j * 2 + 1)) ▸ hcell g rfl _ _ x2⟩)
      rw [seatsB_eq] at this
      exact this
  · obtain ⟨hc, he⟩ := pick1 h
    cases he
    refine contract_flat (ps := [.sl 0 []]) (v := .bool (seatsB [])) rfl fun w com vals hv _ => ?_
    obtain ⟨v, vs, rfl, hv1, hn⟩ := hv.of_cons
    rw [hn.of_nil]
    cases hv1 <;> exact seatsOk_none _ _ w
  · cases h⟩
end Go.Proofs.Ytdegegajoccdjaa
