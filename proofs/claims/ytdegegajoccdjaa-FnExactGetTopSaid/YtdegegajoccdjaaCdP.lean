/- TopOk of the program, by the reckoner: proofs. -/
import Derived.Test.YtdegegajoccdjaaCdT
import Derived.Test.YtdegegajoccdjaaCbP
namespace Go.Proofs.Ytdegegajoccdjaa
open Go.RowKit
set_option linter.unusedVariables false
set_option linter.unusedSimpArgs false
set_option maxRecDepth 100000

theorem ok_cdb0 (hS : EntryOk Try.prog 45 E_seatsOk) : EntriesOk Try.prog cdb0 := ⟨ok_within, hS, trivial⟩
theorem ok_ITop (hS : EntryOk Try.prog 45 E_seatsOk) : EntryOk Try.prog 27 E_ITop := entry_of mix (ok_cdb0 hS) (lp := lp_ITop) (LO := LO0) ⟨Try.func27, by kernel_rfl, by kernel_rfl⟩ (by kernel_rfl) fun ivs res bxs h => by
  unfold E_ITop at h
  split at h
  · rename_i a b c e n l
    obtain ⟨hc, he⟩ := pick1 h
    cases he
    obtain ⟨k0, k1⟩ := andE hc
    obtain ⟨t, q_t, h_t⟩ := isE_inv k0
    injection q_t with qa qb
    subst qa
    subst qb
    obtain rfl := Nat.eq_of_beq_eq_true k1
    have e_t : asSes (.sl _ _) = t := asSes_mk t
    refine ⟨noLoop (by kernel_rfl), (q_ITop_eq a b c t).trans ?_⟩
    rw [e_t, k0, show Nat.beq t.length t.length = true from Nat.beq_refl _]
    unfold topB inB
    generalize (decide (1 ≤ a) && decide (a ≤ 2000000000)) = c1
    generalize (decide (1 ≤ b) && decide (b ≤ 64)) = c2
    generalize (decide (0 ≤ c) && decide (c ≤ 2000000000)) = c3
    cases c1 <;> cases c2 <;> cases c3 <;> rfl
  · rename_i a b c
    obtain ⟨hc, he⟩ := pick1 h
    cases he
    refine ⟨noLoop (by kernel_rfl), (q_ITop0_eq a b c).trans ?_⟩
    unfold topB inB
    generalize (decide (1 ≤ a) && decide (a ≤ 2000000000)) = c1
    generalize (decide (1 ≤ b) && decide (b ≤ 64)) = c2
    generalize (decide (0 ≤ c) && decide (c ≤ 2000000000)) = c3
    cases c1 <;> cases c2 <;> cases c3 <;> rfl
  · cases h
/-! A hand-made contract of a function that reads a list which is lent, and gives a flat value. -/
theorem contract_lk {P : Program} {g : FuncId} {gg : Bool} {pre post l : List PV} {k : Nat} {e : TypeId} {n : Nat} {p : PV} {v : Value} (hv : p.flat = some v)
    (h : ∀ (w : World) (com : Nat → Nat) (c1 : List Value) (u : Value) (c2 xs : List Value), PReps w com c1 pre → LRep w com u k e n l true xs → PReps w com c2 post → (∀ b, w.heap.size ≤ b → com b = 0) → Gl w com →
      Calls P g #[lkV gg c1 u c2] w fun e w' => e = .returned v ∧ Below w.heap.size w w') : Contract P g [.lk gg pre k e n l post] (.cv (.pv p)) [[.lst k e n l true]] := by
  intro w com vals bs hI hnd hfresh hgl
  cases hI with
  | cons h1 h2 =>
    cases h2
    cases h1 with
    | lk _ c1 u c2 _ _ _ _ _ _ xs r1 o1 hL hv1 r2 o2 =>
      refine (h w com c1 u c2 xs r1 hL r2 hfresh hgl).mono ?_
      rintro e' w' ⟨rfl, hb⟩
      have hx : Ext w com w' com := ⟨fun _ => Nat.le_refl _, fun b i hi => by
        have hlt : b < w.heap.size := by
          rcases Nat.lt_or_ge b w.heap.size with h | h
          · exact h
          · rw [hfresh b h] at hi; cases hi
        exact hb.cell (p := ⟨b, i, none⟩) hlt⟩
      have hlt : ∀ b, u.ownBlock = some b → b < w.heap.size := by
        intro b hob
        rcases hL.own.2 with ⟨rfl, _⟩ | ⟨g', cap, cur, rfl, _, hg, _⟩
        · cases hob
        · cases hob
          exact (Array.getElem?_eq_some_iff.1 hg).1
      have hL' := hL.keep hx (fun b hob => ⟨hb.block b (hlt b hob), rfl⟩)
      refine ⟨v, com, [], u.ownBlock.toList ++ [], rfl, hx, ⟨hb.os, hb.tape, hb.output, hb.size, fun b hlt _ => hb.block b hlt⟩, fun b hs => hfresh b (Nat.le_trans hb.size hs), fun _ _ _ => rfl, .one _ _ _ (.cv _ _ _ (.pv _ _ ?_)), .lk gg c1 u c2 pre k e n l l post xs r1.1 hL' [] [] [] [] .nil, ?_, ?_⟩
      · cases p <;> cases hv <;> constructor
      · cases u.ownBlock <;> simp
      · intro b hb'
        left
        simpa using hb'
end Go.Proofs.Ytdegegajoccdjaa
