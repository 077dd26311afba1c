/- Results that are only read from now on: a contract's own lists turn into plain values, a nil list into an empty one. -/
import Derived.Test.YtdegegajoccdjaaVx3
namespace Go.Proofs.Ytdegegajoccdjaa
open Go.RowKit
set_option linter.unusedVariables false

def CV.frz : CV → CV
  | .lst _ _ n l false => .pv (.sl n l)
  | .pv .nils => .pv (.sl 0 [])
  | c => c
def IV.frz1 : IV → IV
  | .cv c => .cv c.frz
  | .agg l => .agg (l.map CV.frz)
  | i => i
def IV.frz : IV → IV
  | .tup is => .tup (is.map IV.frz1)
  | i => i.frz1
section
variable {w : World} {com : Nat → Nat} {loc : Nat → Option Value}
theorem CRep.frz {v : Value} {c : CV} {bs : List Nat} (h : CRep w com loc v c bs) : ∃ bs', CRep w com loc v c.frz bs' ∧ bs'.Sublist bs := by
  cases h with
  | bad => exact ⟨[], .bad v, List.Sublist.refl _⟩
  | pv p h =>
    cases p with
    | nils =>
      cases h
      exact ⟨[], .pv _ _ (.sl0 none 0), List.Sublist.refl _⟩
    | _ => exact ⟨[], .pv _ _ h, List.Sublist.refl _⟩
  | al d h => exact ⟨[], .al v d h, List.Sublist.refl _⟩
  | lst k e n l mt xs h =>
    cases mt with
    | true => exact ⟨_, .lst v k e n l true xs h, List.Sublist.refl _⟩
    | false => exact ⟨[], .pv _ _ h.snap, List.nil_sublist _⟩
theorem CReps.frz {vs : List Value} {cs : List CV} {bs : List Nat} (h : CReps w com loc vs cs bs) : ∃ bs', CReps w com loc vs (cs.map CV.frz) bs' ∧ bs'.Sublist bs := by
  induction h with
  | nil => exact ⟨[], .nil, List.Sublist.refl _⟩
  | cons h h1 k ih =>
    obtain ⟨b1, r1, s1⟩ := h.frz
    obtain ⟨b2, r2, s2⟩ := ih
    exact ⟨_, .cons r1 h1 r2, s1.append s2⟩
theorem IRep.frz {v : Value} {i : IV} {bs : List Nat} (h : IRep w com v i bs) : ∃ bs', IRep w com v i.frz1 bs' ∧ bs'.Sublist bs := by
  cases h with
  | cv v c bs h =>
    obtain ⟨b, r, s⟩ := h.frz
    exact ⟨b, .cv _ _ _ r, s⟩
  | agg cs l bs h =>
    obtain ⟨b, r, s⟩ := h.frz
    exact ⟨b, .agg _ _ _ r, s⟩
  | box b o cur t l bs hb hc h => exact ⟨_, .box b o cur t l bs hb hc h, List.Sublist.refl _⟩
  | lk => rename_i h; exact ⟨_, by first | assumption | (exact .lk _ _ _ _ _ _ _ _ _ _ _ ‹_› ‹_› ‹_› ‹_› ‹_› ‹_›), List.Sublist.refl _⟩
theorem IReps.frz {vs : List Value} {is : List IV} {bs : List Nat} (h : IReps w com vs is bs) : ∃ bs', IReps w com vs (is.map IV.frz1) bs' ∧ bs'.Sublist bs := by
  induction h with
  | nil => exact ⟨[], .nil, List.Sublist.refl _⟩
  | cons h k ih =>
    obtain ⟨b1, r1, s1⟩ := h.frz
    obtain ⟨b2, r2, s2⟩ := ih
    exact ⟨_, .cons r1 r2, s1.append s2⟩
theorem RRep.frz {v : Value} {i : IV} {bs : List Nat} (h : RRep w com v i bs) : ∃ bs', RRep w com v i.frz bs' ∧ bs'.Sublist bs := by
  cases h with
  | one v i bs h =>
    have hh := h
    cases h with
    | cv v c bs h =>
      obtain ⟨b, r, s⟩ := hh.frz
      exact ⟨b, .one _ _ _ r, s⟩
    | agg cs l bs h =>
      obtain ⟨b, r, s⟩ := hh.frz
      exact ⟨b, .one _ _ _ r, s⟩
    | box b o cur t l bs hb hc h =>
      obtain ⟨b, r, s⟩ := hh.frz
      exact ⟨b, .one _ _ _ r, s⟩
    | lk =>
      obtain ⟨b, r, s⟩ := hh.frz
      exact ⟨b, .one _ _ _ r, s⟩
  | tup vs is bs h =>
    obtain ⟨b, r, s⟩ := h.frz
    exact ⟨b, .tup _ _ _ r, s⟩
end
theorem Contract.frz {P : Program} {g : FuncId} {ivs : List IV} {res : IV} {bxs : List (List CV)} (h : Contract P g ivs res bxs) : Contract P g ivs res.frz bxs := by
  intro w com vals bs hI hnd hfresh hgl
  refine (h w com vals bs hI hnd hfresh hgl).mono ?_
  rintro e w' ⟨v, com', rbs, bbs, he, hx, hf, hc, hk, hr, hb, hn, hm⟩
  obtain ⟨rbs', hr', hs⟩ := hr.frz
  exact ⟨v, com', rbs', bbs, he, hx, hf, hc, hk, hr', hb, hn.sublist (hs.append (List.Sublist.refl _)), fun b hb => hm b ((hs.append (List.Sublist.refl _)).subset hb)⟩
/-- .. whose result is a new list. -/
theorem contract_new {P : Program} {g : FuncId} {ps : List PV} {k : Nat} {e : TypeId} {n : Nat} {l : List PV} (h : ∀ (w : World) (com : Nat → Nat) (vals : List Value), PReps w com vals ps → (∀ b, w.heap.size ≤ b → com b = 0) →
    Calls P g vals.toArray w fun ex w' => ∃ v xs, ex = .returned v ∧ w'.ownsRow w.heap.size e k v n xs ∧ PReps w com xs l ∧ (∀ u ∈ xs, u.oneCell' = true) ∧ Below w.heap.size w w') (he : e < 1000000 := by decide) : Contract P g (ps.map fun p => .cv (.pv p)) (.cv (.lst k e n l false)) [] := by
  intro w com vals bs hI hnd hfresh hgl
  obtain ⟨hp, rfl⟩ := ivs_inv hI
  refine (h w com vals hp hfresh).mono ?_
  rintro ex w' ⟨v, xs, rfl, ho, hr, h1, hb⟩
  have hnew : ∀ b, v.ownBlock = some b → w.heap.size ≤ b ∧ b < w'.heap.size := fun b hv => by
    rcases ho.2 with ⟨rfl, _⟩ | ⟨g', cap, cur, rfl, hge, hg, _⟩
    · cases hv
    · cases hv
      refine ⟨hge, ?_⟩
      have := (Array.getElem?_eq_some_iff.1 hg).1
      exact this
  have hx : Ext w com w' (fun b => if v.ownBlock = some b then n * k else com b) := by
    refine ⟨fun b => ?_, fun b i hi => ?_⟩
    · split
      · rename_i hv
        rw [hfresh b (hnew b hv).1]
        exact Nat.zero_le _
      · exact Nat.le_refl _
    · have hlt : b < w.heap.size := by
        rcases Nat.lt_or_ge b w.heap.size with h | h
        · exact h
        · rw [hfresh b h] at hi; exact absurd hi (Nat.not_lt_zero _)
      exact contract_flatG.cell_of_block (hb.block b hlt)
  have hown : w'.ownsRow 0 e k v n xs := by
    refine ⟨ho.1, ?_⟩
    rcases ho.2 with h | ⟨g', cap, cur, h1, h2, h3⟩
    · exact .inl h
    · exact .inr ⟨g', cap, cur, h1, Nat.zero_le _, h3⟩
  have hL : LRep w' (fun b => if v.ownBlock = some b then n * k else com b) v k e n l false xs := ⟨.of hown he, hr.mono hx, h1, fun b hv => by rw [if_pos hv]; rfl⟩
  refine ⟨v, _, v.ownBlock.toList, [], rfl, hx, ⟨hb.os, hb.tape, hb.output, hb.size, fun b hlt _ => hb.block b hlt⟩, fun b hs => ?_, fun b hlt _ => ?_, .one _ _ _ (.cv _ _ _ (.lst v k e n l false xs hL)), ?_, ?_, ?_⟩
  · split
    · rename_i hv
      exact absurd (hnew b hv).2 (by omega)
    · exact hfresh b (Nat.le_trans hb.size hs)
  · split
    · rename_i hv
      exact absurd (hnew b hv).1 (by omega)
    · rfl
  · have : ∀ {ps : List PV} {vs : List Value}, vs.length = ps.length → BRep w' (fun b => if v.ownBlock = some b then n * k else com b) vs (ps.map fun p => .cv (.pv p)) [] [] := by
      intro ps
      induction ps with
      | nil => intro vs h; rw [List.length_eq_zero_iff.1 h]; exact .nil
      | cons p ps ih =>
        intro vs h
        cases vs with
        | nil => simp at h
        | cons v vs => exact .other _ _ _ _ _ _ rfl (ih (by simpa using h))
    exact this hp.1
  · rw [List.append_nil]
    cases v.ownBlock <;> simp
  · intro b hb'
    rw [List.append_nil] at hb'
    exact .inr (hnew b (Option.mem_toList.1 hb')).1
end Go.Proofs.Ytdegegajoccdjaa
