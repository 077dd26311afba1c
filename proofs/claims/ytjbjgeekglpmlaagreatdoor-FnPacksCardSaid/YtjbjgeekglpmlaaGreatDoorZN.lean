/- Results that are only read from now on: a contract's own lists turn into plain values, a nil list into an empty one.
Results that are only read from now on, also lists that were written in place: nobody holds them any more but the caller.
Plain: the pieces of a text by a separator.
Tables and rows: plain data and laws.
Rows: cutting and joining; plain laws.
Tables and rows, by the reckoner: what is stated.
Trees (printed by vx/trees.sh; numbers of one seat).
Tables and rows, by the reckoner: proofs.
Rows: the reference's side, and packing; by the reckoner: what is stated.
Trees (printed by vx/trees.sh; numbers of one seat).
Rows: packing by the reckoner: proofs.
Rows: the reference's side, by the reckoner: what is stated.
Trees (printed by vx/trees.sh; numbers of one seat).
Rows: the reference's side, by the reckoner: proofs. -/
import Derived.Test.YtjbjgeekglpmlaaGreatDoorVx3
import Derived.Lib.Split
import Derived.Lib.Join
import Derived.Test.YtjbjgeekglpmlaaGreatDoorZW
import Derived.Test.YtjbjgeekglpmlaaGreatDoorZX
import Derived.Test.YtjbjgeekglpmlaaGreatDoorCell
import Derived.Lib.SplitLaws
import Derived.Test.YtjbjgeekglpmlaaGreatDoorPieS
import Derived.Test.YtjbjgeekglpmlaaGreatDoorDistinct
namespace Go.Proofs.YtjbjgeekglpmlaaGreatDoor
section
open Go.RowKit
set_option linter.unusedVariables false

def CV.frz : CV → CV
  | .lst _ _ n l false => .pv (.sl n l)
  | .pv .nils => .pv (.sl 0 [])
  | c => c
def IV.frz1 : IV → IV
  | .cv c => .cv c.frz
  | .agg l => .agg (l.map CV.frz)
  | i => i
def IV.frz : IV → IV
  | .tup is => .tup (is.map IV.frz1)
  | i => i.frz1
section
variable {w : World} {com : Nat → Nat} {loc : Nat → Option Value}
theorem CRep.frz {v : Value} {c : CV} {bs : List Nat} (h : CRep w com loc v c bs) : ∃ bs', CRep w com loc v c.frz bs' ∧ bs'.Sublist bs := by
  cases h with
  | bad => exact ⟨[], .bad v, List.Sublist.refl _⟩
  | pv p h =>
    cases p with
    | nils =>
      cases h
      exact ⟨[], .pv _ _ (.sl0 none 0), List.Sublist.refl _⟩
    | _ => exact ⟨[], .pv _ _ h, List.Sublist.refl _⟩
  | al d h => exact ⟨[], .al v d h, List.Sublist.refl _⟩
  | lst k e n l mt xs h =>
    cases mt with
    | true => exact ⟨_, .lst v k e n l true xs h, List.Sublist.refl _⟩
    | false => exact ⟨[], .pv _ _ h.snap, List.nil_sublist _⟩
theorem CReps.frz {vs : List Value} {cs : List CV} {bs : List Nat} (h : CReps w com loc vs cs bs) : ∃ bs', CReps w com loc vs (cs.map CV.frz) bs' ∧ bs'.Sublist bs := by
  induction h with
  | nil => exact ⟨[], .nil, List.Sublist.refl _⟩
  | cons h h1 k ih =>
    obtain ⟨b1, r1, s1⟩ := h.frz
    obtain ⟨b2, r2, s2⟩ := ih
    exact ⟨_, .cons r1 h1 r2, s1.append s2⟩
theorem IRep.frz {v : Value} {i : IV} {bs : List Nat} (h : IRep w com v i bs) : ∃ bs', IRep w com v i.frz1 bs' ∧ bs'.Sublist bs := by
  cases h with
  | cv v c bs h =>
    obtain ⟨b, r, s⟩ := h.frz
    exact ⟨b, .cv _ _ _ r, s⟩
  | agg cs l bs h =>
    obtain ⟨b, r, s⟩ := h.frz
    exact ⟨b, .agg _ _ _ r, s⟩
  | box b o cur t l bs hb hc h => exact ⟨_, .box b o cur t l bs hb hc h, List.Sublist.refl _⟩
theorem IReps.frz {vs : List Value} {is : List IV} {bs : List Nat} (h : IReps w com vs is bs) : ∃ bs', IReps w com vs (is.map IV.frz1) bs' ∧ bs'.Sublist bs := by
  induction h with
  | nil => exact ⟨[], .nil, List.Sublist.refl _⟩
  | cons h k ih =>
    obtain ⟨b1, r1, s1⟩ := h.frz
    obtain ⟨b2, r2, s2⟩ := ih
    exact ⟨_, .cons r1 r2, s1.append s2⟩
theorem RRep.frz {v : Value} {i : IV} {bs : List Nat} (h : RRep w com v i bs) : ∃ bs', RRep w com v i.frz bs' ∧ bs'.Sublist bs := by
  cases h with
  | one v i bs h =>
    have hh := h
    cases h with
    | cv v c bs h =>
      obtain ⟨b, r, s⟩ := hh.frz
      exact ⟨b, .one _ _ _ r, s⟩
    | agg cs l bs h =>
      obtain ⟨b, r, s⟩ := hh.frz
      exact ⟨b, .one _ _ _ r, s⟩
    | box b o cur t l bs hb hc h =>
      obtain ⟨b, r, s⟩ := hh.frz
      exact ⟨b, .one _ _ _ r, s⟩
  | tup vs is bs h =>
    obtain ⟨b, r, s⟩ := h.frz
    exact ⟨b, .tup _ _ _ r, s⟩
end
theorem Contract.frz {P : Program} {g : FuncId} {ivs : List IV} {res : IV} {bxs : List (List CV)} (h : Contract P g ivs res bxs) : Contract P g ivs res.frz bxs := by
  intro w com vals bs hI hnd hfresh hgl
  refine (h w com vals bs hI hnd hfresh hgl).mono ?_
  rintro e w' ⟨v, com', rbs, bbs, he, hx, hf, hc, hk, hr, hb, hn, hm⟩
  obtain ⟨rbs', hr', hs⟩ := hr.frz
  exact ⟨v, com', rbs', bbs, he, hx, hf, hc, hk, hr', hb, hn.sublist (hs.append (List.Sublist.refl _)), fun b hb => hm b ((hs.append (List.Sublist.refl _)).subset hb)⟩
/-- .. whose result is a new list. -/
theorem contract_new {P : Program} {g : FuncId} {ps : List PV} {k : Nat} {e : TypeId} {n : Nat} {l : List PV} (h : ∀ (w : World) (com : Nat → Nat) (vals : List Value), PReps w com vals ps → (∀ b, w.heap.size ≤ b → com b = 0) →
    Calls P g vals.toArray w fun ex w' => ∃ v xs, ex = .returned v ∧ w'.ownsRow w.heap.size e k v n xs ∧ PReps w com xs l ∧ (∀ u ∈ xs, u.oneCell' = true) ∧ Below w.heap.size w w') : Contract P g (ps.map fun p => .cv (.pv p)) (.cv (.lst k e n l false)) [] := by
  intro w com vals bs hI hnd hfresh hgl
  obtain ⟨hp, rfl⟩ := ivs_inv hI
  refine (h w com vals hp hfresh).mono ?_
  rintro ex w' ⟨v, xs, rfl, ho, hr, h1, hb⟩
  have hnew : ∀ b, v.ownBlock = some b → w.heap.size ≤ b ∧ b < w'.heap.size := fun b hv => by
    rcases ho.2 with ⟨rfl, _⟩ | ⟨g', cap, cur, rfl, hge, hg, _⟩
    · cases hv
    · cases hv
      refine ⟨hge, ?_⟩
      have := (Array.getElem?_eq_some_iff.1 hg).1
      exact this
  have hx : Ext w com w' (fun b => if v.ownBlock = some b then n * k else com b) := by
    refine ⟨fun b => ?_, fun b i hi => ?_⟩
    · split
      · rename_i hv
        rw [hfresh b (hnew b hv).1]
        exact Nat.zero_le _
      · exact Nat.le_refl _
    · have hlt : b < w.heap.size := by
        rcases Nat.lt_or_ge b w.heap.size with h | h
        · exact h
        · rw [hfresh b h] at hi; exact absurd hi (Nat.not_lt_zero _)
      exact contract_flatG.cell_of_block (hb.block b hlt)
  have hown : w'.ownsRow 0 e k v n xs := by
    refine ⟨ho.1, ?_⟩
    rcases ho.2 with h | ⟨g', cap, cur, h1, h2, h3⟩
    · exact .inl h
    · exact .inr ⟨g', cap, cur, h1, Nat.zero_le _, h3⟩
  have hL : LRep w' (fun b => if v.ownBlock = some b then n * k else com b) v k e n l false xs := ⟨hown, hr.mono hx, h1, fun b hv => by rw [if_pos hv]; rfl⟩
  refine ⟨v, _, v.ownBlock.toList, [], rfl, hx, ⟨hb.os, hb.tape, hb.output, hb.size, fun b hlt _ => hb.block b hlt⟩, fun b hs => ?_, fun b hlt _ => ?_, .one _ _ _ (.cv _ _ _ (.lst v k e n l false xs hL)), ?_, ?_, ?_⟩
  · split
    · rename_i hv
      exact absurd (hnew b hv).2 (by omega)
    · exact hfresh b (Nat.le_trans hb.size hs)
  · split
    · rename_i hv
      exact absurd (hnew b hv).1 (by omega)
    · rfl
  · have : ∀ {ps : List PV} {vs : List Value}, vs.length = ps.length → BRep w' (fun b => if v.ownBlock = some b then n * k else com b) vs (ps.map fun p => .cv (.pv p)) [] [] := by
      intro ps
      induction ps with
      | nil => intro vs h; rw [List.length_eq_zero_iff.1 h]; exact .nil
      | cons p ps ih =>
        intro vs h
        cases vs with
        | nil => simp at h
        | cons v vs => exact .other _ _ _ _ _ _ rfl (ih (by simpa using h))
    exact this hp.1
  · rw [List.append_nil]
    cases v.ownBlock <;> simp
  · intro b hb'
    rw [List.append_nil] at hb'
    exact .inr (hnew b (Option.mem_toList.1 hb')).1
end

section
open Go.RowKit
set_option linter.unusedVariables false

def CV.frzM : CV → CV
  | .lst _ _ n l _ => .pv (.sl n l)
  | .pv .nils => .pv (.sl 0 [])
  | c => c
def IV.frzM1 : IV → IV
  | .cv c => .cv c.frzM
  | .agg l => .agg (l.map CV.frzM)
  | i => i
def IV.frzM : IV → IV
  | .tup is => .tup (is.map IV.frzM1)
  | i => i.frzM1
def IV.noBox : IV → Bool
  | .tup is => is.all fun i => !i.isBox
  | i => !i.isBox
/-- The result's blocks, all committed. -/
def comR (w : World) (com : Nat → Nat) (bs : List Nat) : Nat → Nat := fun b => if b ∈ bs then com b + comTop w b else com b
section
variable {w : World} {com : Nat → Nat} {loc : Nat → Option Value}
theorem ext_comR (w : World) (com : Nat → Nat) (bs : List Nat) : Ext w com w (comR w com bs) := ⟨fun b => by
  unfold comR
  split
  · exact Nat.le_add_right _ _
  · exact Nat.le_refl _, fun _ _ _ => rfl⟩
theorem LRep.all {v : Value} {k : Nat} {e : TypeId} {n : Nat} {l : List PV} {mt : Bool} {xs : List Value} (h : LRep w com v k e n l mt xs) {bs : List Nat} (hb : ∀ b ∈ v.ownBlock.toList, b ∈ bs) : PRep w (comR w com bs) v (.sl n l) := by
  have hlen := h.len
  have hx := ext_comR w com bs
  rcases h.own.2 with ⟨rfl, rfl⟩ | ⟨g, cap, cur, rfl, hg0, hg, hnc, hcm, hcs, htake⟩
  · have : l = [] := List.length_eq_zero_iff.1 (by simpa using hlen)
    subst this
    exact .sl0 none 0
  · have hc : ∀ i v, xs[i]? = some v → w.cell? ⟨g, 0 + i, none⟩ = some v := fun i u hu => by
      have hc := @World.ownsRow.cells w 0 e k _ n xs h.own g rfl i u hu
      have ea : (⟨g, 0, none⟩ : Addr).add i = ⟨g, 0 + i, none⟩ := by unfold Addr.add; split <;> simp_all
      rwa [ea] at hc
    refine .sl g 0 n cap xs l hnc h.reps.1 h.one (fun i hi => ?_) hc (h.reps.mono hx).2
    have hlx := h.reps.1
    have := comTop_at (hc i xs[i] (List.getElem?_eq_getElem (by omega)))
    unfold comR
    rw [if_pos (hb g (by simp [Value.ownBlock]))]
    omega
theorem CRep.frzM {v : Value} {c : CV} {bs : List Nat} (h : CRep w com loc v c bs) {B : List Nat} (hb : ∀ b ∈ bs, b ∈ B) : CRep w (comR w com B) loc v c.frzM [] := by
  have hx := ext_comR w com B
  cases h with
  | bad => exact .bad v
  | pv p h =>
    cases p with
    | nils =>
      cases h
      exact .pv _ _ (.sl0 none 0)
    | _ => exact .pv _ _ (h.mono hx)
  | al d h => exact .al v d h
  | lst k e n l mt xs h => exact .pv _ _ (h.all hb)
theorem CReps.frzM {vs : List Value} {cs : List CV} {bs : List Nat} (h : CReps w com loc vs cs bs) {B : List Nat} (hb : ∀ b ∈ bs, b ∈ B) : CReps w (comR w com B) loc vs (cs.map CV.frzM) [] := by
  induction h with
  | nil => exact .nil
  | cons h h1 k ih => exact .cons (h.frzM fun b hx => hb b (List.mem_append.2 (.inl hx))) h1 (ih fun b hx => hb b (List.mem_append.2 (.inr hx)))
theorem IRep.frzM {v : Value} {i : IV} {bs : List Nat} (h : IRep w com v i bs) (hn : i.isBox = false) {B : List Nat} (hb : ∀ b ∈ bs, b ∈ B) : IRep w (comR w com B) v i.frzM1 [] := by
  cases h with
  | cv v c bs h => exact .cv _ _ _ (h.frzM hb)
  | agg cs l bs h => exact .agg _ _ _ (h.frzM hb)
  | box b o cur t l bs hb hc h => cases hn
theorem IReps.frzM {vs : List Value} {is : List IV} {bs : List Nat} (h : IReps w com vs is bs) (hn : (is.all fun i => !i.isBox) = true) {B : List Nat} (hb : ∀ b ∈ bs, b ∈ B) : IReps w (comR w com B) vs (is.map IV.frzM1) [] := by
  induction h with
  | nil => exact .nil
  | cons h k ih =>
    rw [List.all_cons, Bool.and_eq_true] at hn
    exact .cons (h.frzM (by simpa using hn.1) fun b hx => hb b (List.mem_append.2 (.inl hx))) (ih hn.2 fun b hx => hb b (List.mem_append.2 (.inr hx)))
theorem RRep.frzM {v : Value} {i : IV} {bs : List Nat} (h : RRep w com v i bs) (hn : i.noBox = true) {B : List Nat} (hb : ∀ b ∈ bs, b ∈ B) : RRep w (comR w com B) v i.frzM [] := by
  cases h with
  | one v i bs h =>
    have hh := h
    cases h with
    | cv v c bs h => exact .one _ _ _ (hh.frzM rfl hb)
    | agg cs l bs h => exact .one _ _ _ (hh.frzM rfl hb)
    | box b o cur t l bs hb hc h => cases hn
  | tup vs is bs h => exact .tup _ _ _ (h.frzM hn hb)
theorem BRep.keepM {com' : Nat → Nat} {vs : List Value} {is : List IV} {bx : List (List CV)} {bs : List Nat} (h : BRep w com vs is bx bs) (x : Ext w com w com') (hb : ∀ b ∈ bs, com' b = com b) : BRep w com' vs is bx bs := by
  induction h with
  | nil => exact .nil
  | box b o cur t l l' bs vs is bx bs' h1 hc h k ih =>
    exact .box b o cur t l l' bs vs is bx bs' h1 ((hb b (by simp)).trans hc) (h.keep x (fun _ _ h => h) fun b' hx => ⟨rfl, hb b' (by simp [hx])⟩) (ih fun b' hx => hb b' (by simp [hx]))
  | other v i vs is bx bs hi k ih => exact .other v i vs is bx bs hi (ih hb)
theorem CReps.blkM {vs : List Value} {cs : List CV} {bs : List Nat} (h : CReps w com loc vs cs bs) : ∀ b ∈ bs, b < w.heap.size := h.lt
theorem IRep.blkM {v : Value} {i : IV} {bs : List Nat} (h : IRep w com v i bs) : ∀ b ∈ bs, b < w.heap.size := by
  have := (IReps.cons h .nil).blk
  rwa [List.append_nil] at this
theorem RRep.blkM {v : Value} {i : IV} {bs : List Nat} (h : RRep w com v i bs) : ∀ b ∈ bs, b < w.heap.size := by
  cases h with
  | one v i bs h => exact h.blkM
  | tup vs is bs h => exact h.blk
end
theorem Contract.frzM {P : Program} {g : FuncId} {ivs : List IV} {res : IV} {bxs : List (List CV)} (h : Contract P g ivs res bxs) (hnb : res.noBox = true) : Contract P g ivs res.frzM bxs := by
  intro w com vals bs hI hnd hfresh hgl
  refine (h w com vals bs hI hnd hfresh hgl).mono ?_
  rintro e w' ⟨v, com', rbs, bbs, he, hx, hf, hc, hk, hr, hb, hn, hm⟩
  obtain ⟨hn1, hn2, hn3⟩ := List.nodup_append.1 hn
  have hx2 := ext_comR w' com' rbs
  refine ⟨v, comR w' com' rbs, [], bbs, he, hx.trans hx2, hf, fun b hs => ?_, fun b hlt hnb' => ?_, hr.frzM hnb fun b h => h, hb.keepM hx2 fun b hb' => ?_, hn2, fun b hb' => hm b (List.mem_append.2 (.inr (by simpa using hb')))⟩
  · unfold comR
    rw [if_neg (fun h => absurd (hr.blkM b h) (by omega))]
    exact hc b hs
  · unfold comR
    rw [if_neg (fun h => ?_)]
    · exact hk b hlt hnb'
    · rcases hm b (List.mem_append.2 (.inl h)) with h | h
      · exact hnb' h
      · omega
  · unfold comR
    rw [if_neg (fun h => hn3 b h b hb' rfl)]
theorem entry_ofM {P : Program} (hmix : P.follows .mixedOrders = true) {tab : List (FuncId × Entry)} (hT : EntriesOk P tab) {lp : List (Nat × List Nat × List Nat)} {LO : LoopT} {g : FuncId} {fn : Func} (hf : FnAt P g fn) (h0 : Nat.blt 0 fn.ntmps = true) {E : Entry}
    (h : ∀ ivs res bxs, pickA (E ivs) = some (res, bxs) → (∀ b ∈ loopsIn (bodyOf fn), LoopOk P (tabL tab) (OL lp) fn.ntmps (pbOf (boxSlots 0 ivs)) LO b) ∧ ∃ R, evB brC P tab lp LO fn ivs = some (R, bxs) ∧ R.noBox = true ∧ R.frzM = res) : EntryOk P g E :=
  ⟨⟨_, hf⟩, fun ivs res bxs he => by
    obtain ⟨h1, R, h2, h3, rfl⟩ := h ivs res bxs he
    exact (fun_okB hmix (tabL_ok hT) hf h0 rfl h1 h2).frzM h3⟩
end

section
set_option linter.unusedVariables false

theorem index_occ {s sub : List UInt8} : ∀ {i : Nat}, Lib.index s sub = (i : Int) → Lib.occAt s sub i = true ∧ i ≤ s.length := by
  induction s with
  | nil =>
    intro i h
    unfold Lib.index at h
    split at h
    · rename_i hs
      have : i = 0 := by omega
      subst this
      exact ⟨by unfold Lib.occAt; cases sub <;> simp_all, by simp⟩
    · omega
  | cons b l ih =>
    intro i h
    unfold Lib.index at h
    split at h
    · rename_i hs
      have : i = 0 := by omega
      subst this
      exact ⟨by unfold Lib.occAt; simpa using hs, by simp⟩
    · split at h
      · omega
      · rename_i h2
        have hge := Lib.index_ge l sub
        have hne : Lib.index l sub ≠ -1 := fun e => h2 (by rw [e]; rfl)
        obtain ⟨j, hj⟩ : ∃ j : Nat, Lib.index l sub = (j : Int) := ⟨(Lib.index l sub).toNat, by omega⟩
        have : i = j + 1 := by omega
        subst this
        obtain ⟨h3, h4⟩ := ih hj
        refine ⟨?_, by simp; omega⟩
        unfold Lib.occAt at h3 ⊢
        simpa using h3
theorem occ_take {s sub : List UInt8} {i : Nat} (h : Lib.occAt s sub i = true) : s.take i ++ (sub ++ s.drop (i + sub.length)) = s := by
  unfold Lib.occAt at h
  have hp := List.isPrefixOf_iff_prefix.1 h
  obtain ⟨t, ht⟩ := hp
  have h2 : s.drop (i + sub.length) = t := by
    rw [← List.drop_drop, ← ht, List.drop_left]
  rw [h2, ht, List.take_append_drop]
theorem index_none_of {s sub : List UInt8} (h : ∀ j, Lib.occAt s sub j = false) : Lib.index s sub = -1 := by
  have hge := Lib.index_ge s sub
  by_cases hn : Lib.index s sub = -1
  · exact hn
  · obtain ⟨j, hj⟩ : ∃ j : Nat, Lib.index s sub = (j : Int) := ⟨(Lib.index s sub).toNat, by omega⟩
    have := (index_occ hj).1
    rw [h j] at this
    cases this
/-- No place ahead of the first one. -/
theorem index_first_min {s sub : List UInt8} : ∀ {i : Nat}, Lib.index s sub = (i : Int) → ∀ j, j < i → Lib.occAt s sub j = false := by
  induction s with
  | nil =>
    intro i h j hj
    unfold Lib.index at h
    split at h <;> omega
  | cons b l ih =>
    intro i h j hj
    unfold Lib.index at h
    split at h
    · omega
    · rename_i hs
      split at h
      · omega
      · rename_i h2
        have hge := Lib.index_ge l sub
        have hne : Lib.index l sub ≠ -1 := fun e => h2 (by rw [e]; rfl)
        obtain ⟨m, hm⟩ : ∃ m : Nat, Lib.index l sub = (m : Int) := ⟨(Lib.index l sub).toNat, by omega⟩
        cases j with
        | zero => unfold Lib.occAt; rw [List.drop_zero]; exact Bool.eq_false_iff.2 hs
        | succ j =>
          have := ih hm j (by omega)
          unfold Lib.occAt at this ⊢
          simpa using this
/-- What stands ahead of the first place holds none. -/
theorem index_take {s sub : List UInt8} {i : Nat} (hsub : sub ≠ []) (h : Lib.index s sub = (i : Int)) : Lib.index (s.take i) sub = -1 := by
  apply index_none_of
  intro j
  cases hj : Lib.occAt (s.take i) sub j with
  | false => rfl
  | true =>
    unfold Lib.occAt at hj
    obtain ⟨t, ht⟩ := List.isPrefixOf_iff_prefix.1 hj
    have hl := congrArg List.length ht
    rw [List.length_append, List.length_drop, List.length_take] at hl
    have hpos : 0 < sub.length := List.length_pos_iff.2 hsub
    have hji : j < i := by omega
    have := index_first_min h j hji
    unfold Lib.occAt at this
    have h2 : sub.isPrefixOf (s.drop j) = true := by
      apply List.isPrefixOf_iff_prefix.2
      have h3 : (s.take i).drop j <+: s.drop j := by
        rw [List.drop_take]; exact List.take_prefix _ _
      exact List.IsPrefix.trans ⟨t, ht⟩ h3
    rw [h2] at this
    cases this
theorem splitK_ne (sep : List UInt8) (save k : Nat) (s : List UInt8) : Lib.splitK sep save k s ≠ [] := by
  cases k with
  | zero => simp [Lib.splitK]
  | succ k => unfold Lib.splitK; split <;> simp
theorem join_cons2 (x : List UInt8) (l : List (List UInt8)) (sep : List UInt8) (h : l ≠ []) : Lib.join (x :: l) sep = x ++ (sep ++ Lib.join l sep) := by
  cases l with
  | nil => exact absurd rfl h
  | cons y l => unfold Lib.join; rw [List.intercalate_cons_cons]; simp
theorem join_one (x sep : List UInt8) : Lib.join [x] sep = x := by unfold Lib.join; simp
/-- The pieces joined are the text; none holds the separator. -/
theorem split_law (sep : List UInt8) (hsep : sep ≠ []) : ∀ (k : Nat) (s : List UInt8), k = Lib.count s sep → Lib.join (Lib.splitK sep 0 k s) sep = s ∧ (∀ p ∈ Lib.splitK sep 0 k s, Lib.index p sep = -1) ∧ (Lib.splitK sep 0 k s).length = k + 1
  | 0, s, hk => by
    have hm : Lib.index s sep = -1 := by
      have hge := Lib.index_ge s sep
      by_cases h : Lib.index s sep = -1
      · exact h
      · have h2 := Lib.count_hit (s := s) (i := (Lib.index s sep).toNat) hsep (by omega)
        omega
    refine ⟨join_one _ _, ?_, rfl⟩
    intro p hp
    have : p = s := by simpa [Lib.splitK] using hp
    rw [this]; exact hm
  | k + 1, s, hk => by
    have hge := Lib.index_ge s sep
    have hne : Lib.index s sep ≠ -1 := fun e => by
      have := Lib.count_miss e
      omega
    obtain ⟨i, hi⟩ : ∃ i : Nat, Lib.index s sep = (i : Int) := ⟨(Lib.index s sep).toNat, by omega⟩
    have hc := Lib.count_hit hsep hi
    have ih := split_law sep hsep k (s.drop (i + sep.length)) (by omega)
    have hnb : ¬ (Lib.index s sep == -1) = true := fun e => hne (beq_iff_eq.1 e)
    have e0 : Lib.splitK sep 0 (k + 1) s = s.take i :: Lib.splitK sep 0 k (s.drop (i + sep.length)) := by
      conv => lhs; unfold Lib.splitK
      rw [if_neg hnb, hi]
      simp
    rw [e0]
    refine ⟨?_, ?_, ?_⟩
    · rw [join_cons2 _ _ _ (splitK_ne _ _ _ _), ih.1]
      exact occ_take (index_occ hi).1
    · intro p hp
      rcases List.mem_cons.1 hp with rfl | hp
      · exact index_take hsep hi
      · exact ih.2.1 p hp
    · rw [List.length_cons, ih.2.2]
theorem count_index (s sep : List UInt8) (hsep : sep ≠ []) : (0 ≤ Lib.index s sep) ↔ 1 ≤ Lib.count s sep := by
  have hge := Lib.index_ge s sep
  constructor
  · intro h
    obtain ⟨i, hi⟩ : ∃ i : Nat, Lib.index s sep = (i : Int) := ⟨(Lib.index s sep).toNat, by omega⟩
    have := Lib.count_hit hsep hi
    omega
  · intro h
    by_cases hm : Lib.index s sep = -1
    · have := Lib.count_miss hm; omega
    · omega
end

section
open Go.RowKit
set_option linter.unusedVariables false
set_option linter.unusedSimpArgs false

structure TblT where
  name : ByteArray
  glob : ByteArray
  cols : List ByteArray
  idxs : List ByteArray
instance : Inhabited TblT := ⟨⟨⟨#[]⟩, ⟨#[]⟩, [], []⟩⟩
def pTb (b : TblT) : PV := .agg [.str b.name, .str b.glob, pL b.cols, pL b.idxs]
theorem pTb_inj (a b : TblT) (h : pTb a = pTb b) : a = b := by
  unfold pTb at h
  injection h with h
  injection h with h1 h
  injection h with h2 h
  injection h with h3 h
  injection h with h4 _
  injection h1 with h1
  injection h2 with h2
  cases a
  cases b
  simp only at h1 h2 h3 h4
  rw [h1, h2, pL_inj _ _ h3, pL_inj _ _ h4]
def shTb (b : TblT) : Prop := b.name.size ≤ 1000000 ∧ b.glob.size ≤ 1000000 ∧ shL b.cols ∧ shL b.idxs
noncomputable abbrev isTb (p : PV) : Bool := isE pTb shTb p
noncomputable abbrev asTb (p : PV) : TblT := asE pTb p
theorem isTb_mk {b : TblT} (h : shTb b) : isE pTb shTb (PV.agg [PV.str b.name, PV.str b.glob, PV.sl b.cols.length (b.cols.map PV.str), PV.sl b.idxs.length (b.idxs.map PV.str)]) = true := isE_mk (enc := pTb) h
theorem asTb_mk (b : TblT) : asE pTb (PV.agg [PV.str b.name, PV.str b.glob, PV.sl b.cols.length (b.cols.map PV.str), PV.sl b.idxs.length (b.idxs.map PV.str)]) = b := asE_mk pTb_inj b
theorem isTb_inv {p : PV} (h : isTb p = true) : ∃ b, p = pTb b ∧ shTb b := isE_inv h
noncomputable def nodupX (xs : List ByteArray) : Bool := @decide xs.Nodup (Classical.propDecidable _)
/-- Where a text stands in a list, or -1. -/
noncomputable def posS (xs : List ByteArray) (s : ByteArray) : Int := if firstS xs s < xs.length then firstS xs s else -1
/-- Do the places rise? -/
noncomputable def idxB (cols : List ByteArray) : List ByteArray → Int → Bool
  | [], _ => true
  | x :: r, a => decide (a < posS cols x) && idxB cols r (posS cols x)
noncomputable def tblB (b : TblT) : Bool := nameB b.name && nameB b.glob && decide (1 ≤ b.cols.length) && decide (b.cols.length ≤ 5) && nodupX b.cols && b.cols.all nameB && idxB b.cols b.idxs 0
theorem posS_lt (cols : List ByteArray) (x : ByteArray) : posS cols x < cols.length ∧ -1 ≤ posS cols x := by
  unfold posS
  split <;> omega
theorem idxB_len (cols : List ByteArray) : ∀ (is : List ByteArray) (a : Int), idxB cols is a = true → a < cols.length → a + is.length < cols.length
  | [], a, h, ha => by simpa using ha
  | x :: r, a, h, ha => by
    unfold idxB at h
    rw [Bool.and_eq_true, decide_eq_true_eq] at h
    have := idxB_len cols r _ h.2 (posS_lt cols x).1
    rw [List.length_cons]
    omega
/-! Rows. -/
def pRw (cs : List ByteArray) : PV := .agg [pL cs]
theorem pRw_inj (a b : List ByteArray) (h : pRw a = pRw b) : a = b := by
  unfold pRw at h
  injection h with h
  injection h with h _
  exact pL_inj _ _ h
noncomputable abbrev isRw (p : PV) : Bool := isE pRw shL p
noncomputable abbrev asRw (p : PV) : List ByteArray := asE pRw p
theorem isRw_mk {cs : List ByteArray} (h : shL cs) : isE pRw shL (PV.agg [PV.sl cs.length (cs.map PV.str)]) = true := isE_mk (enc := pRw) h
theorem asRw_mk (cs : List ByteArray) : asE pRw (PV.agg [PV.sl cs.length (cs.map PV.str)]) = cs := asE_mk pRw_inj cs
theorem isRw_inv {p : PV} (h : isRw p = true) : ∃ cs, p = pRw cs ∧ shL cs := isE_inv h
def rowB (b : TblT) (cs : List ByteArray) : Bool := decide (cs.length = b.cols.length) && !(cs.headD ⟨#[]⟩).data.toList.isEmpty && cs.all cellB
/-- The value of a row. -/
def packL (cs : List ByteArray) : List UInt8 := Lib.join ((cs.drop 1).map (·.data.toList)) [94]
end

section
open Go.RowKit
set_option linter.unusedVariables false
set_option linter.unusedSimpArgs false

/-- The pieces of a value. -/
def cutV (s : ByteArray) : List ByteArray := Lib.splitB ⟨#[94]⟩ 0 (Lib.countB s ⟨#[94]⟩) s
def free (p : List UInt8) : Prop := (94 : UInt8) ∉ p
theorem index_free : ∀ {p : List UInt8}, Lib.index p [94] = -1 → free p
  | [], _ => fun h => by cases h
  | c :: p, h => by
    unfold Lib.index at h
    by_cases e : c = 94
    · subst e
      rw [if_pos (by rfl)] at h
      cases h
    · rw [if_neg (by
        intro hh
        have : ((94 : UInt8) == c) = true := by simpa [List.isPrefixOf] using hh
        exact e (beq_iff_eq.1 this).symm)] at h
      by_cases h2 : (Lib.index p [94] == -1) = true
      · have := index_free (beq_iff_eq.1 h2)
        intro hm
        rcases List.mem_cons.1 hm with h3 | h3
        · exact e h3.symm
        · exact this h3
      · rw [if_neg h2] at h
        have := Lib.index_ge p [94]
        have : Lib.index p [94] ≠ -1 := fun e => h2 (beq_iff_eq.2 e)
        omega
abbrev datas (l : List ByteArray) : List (List UInt8) := l.map (·.data.toList)
theorem cut_facts (s : ByteArray) : Lib.join (datas (cutV s)) [94] = s.data.toList ∧ (∀ p ∈ datas (cutV s), free p) ∧ cutV s ≠ [] := by
  have hd : datas (cutV s) = Lib.splitK [94] 0 (Lib.count s.data.toList [94]) s.data.toList := Lib.splitB_data ⟨#[94]⟩ 0 _ s
  obtain ⟨h1, h2, h3⟩ := split_law [94] (by simp) _ s.data.toList rfl
  refine ⟨by rw [hd]; exact h1, fun p hp => index_free (h2 p (by rw [← hd]; exact hp)), fun e => ?_⟩
  rw [e] at hd
  have := congrArg List.length hd
  rw [h3] at this
  cases this
theorem free_cut : ∀ {x y r r' : List UInt8}, free x → free y → x ++ 94 :: r = y ++ 94 :: r' → x = y ∧ r = r'
  | [], [], r, r', hx, hy, h => by injection h with _ h; exact ⟨rfl, h⟩
  | [], b :: y, r, r', hx, hy, h => by
    injection h with h _
    exact absurd (by rw [h]; simp) hy
  | a :: x, [], r, r', hx, hy, h => by
    injection h with h _
    exact absurd (by rw [h]; simp) hx
  | a :: x, b :: y, r, r', hx, hy, h => by
    injection h with h1 h2
    obtain ⟨h3, h4⟩ := free_cut (fun hm => hx (List.mem_cons_of_mem _ hm)) (fun hm => hy (List.mem_cons_of_mem _ hm)) h2
    exact ⟨by rw [h1, h3], h4⟩
theorem join_inj : ∀ {l m : List (List UInt8)}, l ≠ [] → m ≠ [] → (∀ p ∈ l, free p) → (∀ p ∈ m, free p) → Lib.join l [94] = Lib.join m [94] → l = m
  | [], m, hl, _, _, _, _ => absurd rfl hl
  | x :: l, [], _, hm, _, _, _ => absurd rfl hm
  | [x], [y], _, _, _, _, h => by rw [join_one, join_one] at h; rw [h]
  | [x], y :: z :: m, _, _, hx, hy, h => by
    rw [join_one, join_cons2 _ _ _ (by simp)] at h
    have := hx x (by simp)
    rw [h] at this
    exact absurd (by simp) this
  | x :: w :: l, [y], _, _, hx, hy, h => by
    rw [join_one, join_cons2 _ _ _ (by simp)] at h
    have := hy y (by simp)
    rw [← h] at this
    exact absurd (by simp) this
  | x :: w :: l, y :: z :: m, _, _, hx, hy, h => by
    rw [join_cons2 x (w :: l) _ (by simp), join_cons2 y (z :: m) _ (by simp)] at h
    obtain ⟨h1, h2⟩ := free_cut (hx x (by simp)) (hy y (by simp)) h
    rw [h1, join_inj (by simp) (by simp) (fun p hp => hx p (List.mem_cons_of_mem _ hp)) (fun p hp => hy p (List.mem_cons_of_mem _ hp)) h2]
theorem datas_inj : ∀ {l m : List ByteArray}, datas l = datas m → l = m
  | [], [], _ => rfl
  | [], _ :: _, h => by cases h
  | _ :: _, [], h => by cases h
  | a :: l, b :: m, h => by
    unfold datas at h
    rw [List.map_cons, List.map_cons] at h
    injection h with h1 h2
    rw [ByteArray.ext (Array.ext' h1), datas_inj h2]
theorem cut_join {s : ByteArray} {cs : List ByteArray} (hne : cs ≠ []) (hf : ∀ p ∈ datas cs, free p) (h : s.data.toList = Lib.join (datas cs) [94]) : cutV s = cs := by
  obtain ⟨h1, h2, h3⟩ := cut_facts s
  refine datas_inj (join_inj ?_ ?_ h2 hf (h1.trans h))
  · intro e
    exact h3 (by cases hc : cutV s with | nil => rfl | cons a b => rw [hc] at e; cases e)
  · intro e
    exact hne (by cases cs with | nil => rfl | cons a b => cases e)
theorem join_len : ∀ (l : List (List UInt8)), l.length ≤ (Lib.join l [94]).length + 1 ∧ ∀ p ∈ l, p.length ≤ (Lib.join l [94]).length
  | [] => ⟨Nat.zero_le _, fun p h => by cases h⟩
  | [x] => by
    rw [join_one]
    exact ⟨by simp, fun p h => by rw [List.mem_singleton.1 h]; exact Nat.le_refl _⟩
  | x :: y :: l => by
    obtain ⟨h1, h2⟩ := join_len (y :: l)
    rw [join_cons2 _ _ _ (by simp), List.length_append, List.length_append, List.length_cons, List.length_singleton]
    refine ⟨by omega, fun p h => ?_⟩
    rcases List.mem_cons.1 h with rfl | h
    · omega
    · have := h2 p h
      omega
theorem join_len2 : ∀ (l : List (List UInt8)) (m : Nat), (∀ p ∈ l, p.length ≤ m) → (Lib.join l [94]).length ≤ l.length * (m + 1)
  | [], m, _ => by simp [Lib.join]
  | [x], m, h => by
    rw [join_one]
    have := h x (by simp)
    simp
    omega
  | x :: y :: l, m, h => by
    have h1 := join_len2 (y :: l) m (fun p hp => h p (List.mem_cons_of_mem _ hp))
    have h2 := h x (by simp)
    rw [join_cons2 _ _ _ (by simp), List.length_append, List.length_append, List.length_singleton, List.length_cons (a := x), Nat.add_mul]
    omega
theorem cut_sh {s : ByteArray} (h : s.size ≤ 50000) : shL (cutV s) := by
  obtain ⟨h1, h2, h3⟩ := cut_facts s
  obtain ⟨h4, h5⟩ := join_len (datas (cutV s))
  have hs : s.data.toList.length = s.size := by rw [Array.length_toList]; rfl
  rw [h1, hs, List.length_map] at h4
  rw [h1] at h5
  refine ⟨by omega, fun p hp => ?_⟩
  have h6 := h5 p.data.toList (List.mem_map.2 ⟨p, hp, rfl⟩)
  rw [hs] at h6
  have hq : p.data.toList.length = p.size := by rw [Array.length_toList]; rfl
  omega
theorem cellB_free {s : ByteArray} (h : cellB s = true) : free s.data.toList := by
  unfold cellB at h
  rw [Bool.and_eq_true, Bool.not_eq_true'] at h
  intro hm
  have := List.any_eq_false.1 h.2 94 hm
  exact this (by decide)
/-- What a value and a key make. -/
noncomputable def cellsW (b : TblT) (k v : ByteArray) : List ByteArray := @Classical.epsilon _ ⟨[]⟩ fun x : List ByteArray => x = k :: (if 1 < b.cols.length then cutV v else [])
theorem cellsW_eq (b : TblT) (k v : ByteArray) : cellsW b k v = k :: (if 1 < b.cols.length then cutV v else []) := @Classical.epsilon_spec _ (fun x : List ByteArray => x = k :: (if 1 < b.cols.length then cutV v else [])) ⟨_, rfl⟩
noncomputable def unpB (b : TblT) (k v : ByteArray) : Bool := rowB b (cellsW b k v) && (decide (1 < b.cols.length) || v.data.toList.isEmpty)
theorem pack_cells (b : TblT) (k v : ByteArray) : (packL (cellsW b k v) = v.data.toList) ↔ (decide (1 < b.cols.length) || v.data.toList.isEmpty) = true := by
  unfold packL
  rw [cellsW_eq, List.drop_succ_cons, List.drop_zero]
  by_cases h : 1 < b.cols.length
  · rw [if_pos h, decide_eq_true h, Bool.true_or]
    exact ⟨fun _ => rfl, fun _ => (cut_facts v).1⟩
  · rw [if_neg h, decide_eq_false h, Bool.false_or]
    show (Lib.join [] [94] = _) ↔ _
    cases v.data.toList with
    | nil => exact ⟨fun _ => rfl, fun _ => rfl⟩
    | cons c l => exact ⟨(fun e => by simp [Lib.join] at e), (fun e => by cases e)⟩
theorem rowB_inv {b : TblT} {cs : List ByteArray} (h : rowB b cs = true) : cs.length = b.cols.length ∧ (cs.headD ⟨#[]⟩).data.toList ≠ [] ∧ ∀ c ∈ cs, cellB c = true := by
  unfold rowB at h
  simp only [Bool.and_eq_true, decide_eq_true_eq, Bool.not_eq_true'] at h
  refine ⟨h.1.1, fun e => ?_, List.all_eq_true.1 h.2⟩
  rw [e] at h
  exact absurd h.1.2 (by decide)
/-- A row comes back from its value. -/
theorem row_back {b : TblT} {cs : List ByteArray} (hb : rowB b cs = true) (h1 : 1 ≤ b.cols.length) {v : ByteArray} (hv : v.data.toList = packL cs) : cellsW b (cs.headD ⟨#[]⟩) v = cs := by
  obtain ⟨r1, r2, r3⟩ := rowB_inv hb
  cases cs with
  | nil => rw [List.length_nil] at r1; omega
  | cons k cs =>
    rw [cellsW_eq, List.headD_cons]
    congr 1
    rw [List.length_cons] at r1
    by_cases h : 1 < b.cols.length
    · rw [if_pos h]
      refine cut_join (fun e => by rw [e, List.length_nil] at r1; omega) (fun p hp => ?_) hv
      obtain ⟨c, hc, rfl⟩ := List.mem_map.1 hp
      exact cellB_free (r3 c (List.mem_cons_of_mem _ hc))
    · rw [if_neg h]
      exact (List.length_eq_zero_iff.1 (by omega)).symm
theorem pack_len {cs : List ByteArray} (h : ∀ c ∈ cs, cellB c = true) : (packL cs).length ≤ cs.length * 12 := by
  unfold packL
  have := join_len2 ((cs.drop 1).map (·.data.toList)) 11 (fun p hp => by
    obtain ⟨c, hc, rfl⟩ := List.mem_map.1 hp
    have := h c (List.mem_of_mem_drop hc)
    unfold cellB at this
    rw [Bool.and_eq_true, decide_eq_true_eq] at this
    have hq : c.data.toList.length = c.size := by rw [Array.length_toList]; rfl
    omega)
  rw [List.length_map, List.length_drop] at this
  omega
/-- Scanning for the pieces. -/
def cutR : List UInt8 → List UInt8 → List (List UInt8)
  | acc, [] => [acc]
  | acc, c :: r => if c = 94 then acc :: cutR [] r else cutR (acc ++ [c]) r
theorem cutR_ne : ∀ (r acc : List UInt8), cutR acc r ≠ []
  | [], acc => by simp [cutR]
  | c :: r, acc => by
    unfold cutR
    split
    · simp
    · exact cutR_ne r _
theorem cutR_ok : ∀ (r acc : List UInt8), free acc → Lib.join (cutR acc r) [94] = acc ++ r ∧ ∀ p ∈ cutR acc r, free p
  | [], acc, h => ⟨by unfold cutR; rw [join_one, List.append_nil], fun p hp => by unfold cutR at hp; rw [List.mem_singleton.1 hp]; exact h⟩
  | c :: r, acc, h => by
    unfold cutR
    by_cases e : c = 94
    · rw [if_pos e]
      obtain ⟨h1, h2⟩ := cutR_ok r [] (fun h => by cases h)
      refine ⟨?_, fun p hp => ?_⟩
      · rw [join_cons2 _ _ _ (cutR_ne _ _), h1, e]
        simp
      · rcases List.mem_cons.1 hp with rfl | hp
        · exact h
        · exact h2 p hp
    · rw [if_neg e]
      obtain ⟨h1, h2⟩ := cutR_ok r (acc ++ [c]) (fun hm => by
        rcases List.mem_append.1 hm with hm | hm
        · exact h hm
        · exact e (List.mem_singleton.1 hm).symm)
      exact ⟨by rw [h1]; simp, h2⟩
theorem cutR_cut (s : ByteArray) : cutR [] s.data.toList = datas (cutV s) := by
  obtain ⟨h1, h2, h3⟩ := cut_facts s
  obtain ⟨g1, g2⟩ := cutR_ok s.data.toList [] (fun h => by cases h)
  refine join_inj (cutR_ne _ _) ?_ g2 h2 (by rw [g1, h1]; rfl)
  intro e
  exact h3 (by cases hc : cutV s with | nil => rfl | cons a b => rw [hc] at e; cases e)
end

section
open Go.RowKit
set_option linter.unusedVariables false

def E_icell : Entry := fun ivs => match ivs with | [.cv (.pv (.str s))] => [(decide (s.size ≤ 1000000), cB (cellB s), [])] | _ => []
noncomputable def E_dist : Entry := fun ivs => match ivs with | [.cv (.pv p)] => [(isL p, cB (nodupX (asL p)), [])] | _ => []
noncomputable def E_count : Entry := fun ivs => match ivs with | [.cv (.pv p)] => [(isL p, cI (asL p).length, [])] | _ => []
noncomputable def q_count (br : Br) (xs : List ByteArray) := evB br Tryz.prog [] [] LO0 Tryz.f108 [cP (pL xs)]
noncomputable def pab0 : List (FuncId × Entry) := (78, E_INameOk) :: [(169, E_icell)]
def E_cloTa : Entry := fun ivs => match ivs with | [.cv (.pv (.str x))] => [(decide (x.size ≤ 1000000), cB (!nameB x), [])] | _ => []
noncomputable def q_cloTa (br : Br) (x : ByteArray) := evB br Tryz.prog pab0 [] LO0 Tryz.f111 [cS x]
def E_cloRb : Entry := fun ivs => match ivs with | [.cv (.pv (.str x))] => [(decide (x.size ≤ 1000000), cB (!cellB x), [])] | _ => []
noncomputable def q_cloRb (br : Br) (x : ByteArray) := evB br Tryz.prog pab0 [] LO0 Tryz.f168 [cS x]
noncomputable def pab1 : List (FuncId × Entry) := (111, E_cloTa) :: (168, E_cloRb) :: pab0
def firstTa (xs : List ByteArray) : Nat := idxW (fun x => !nameB x) xs
noncomputable def LO_IdxTa : LoopT := fun _ ls => match ls with
  | [(.pv p, none), (.pv (.clo f []), none), (.pv (.int .i64 n), none), (.pv (.int .i64 i), none)] =>
    [(isL p && Nat.beq f 111 && (n == ((asL p).length : Int)) && (i == 0) && decide (firstTa (asL p) < (asL p).length), .ret, [aI (firstTa (asL p))]),
     (isL p && Nat.beq f 111 && (n == ((asL p).length : Int)) && (i == 0), .exit 0, [aX])]
  | _ => []
noncomputable def r_IdxTa (br : Br) (xs : List ByteArray) (i : Int) := rdB br Tryz.prog pab1 lp_IndexS LO_IdxTa Tryz.f173 2 [] [aP (pL xs), aP (.clo 111 []), aI xs.length, aI i]
noncomputable def q_IdxTa (br : Br) (xs : List ByteArray) := evB br Tryz.prog pab1 lp_IndexS LO_IdxTa Tryz.f173 [cP (pL xs), cP (.clo 111 [])]
noncomputable def E_IdxTa : Entry := fun ivs => match ivs with
  | [.cv (.pv p), .cv (.pv (.clo f []))] => [(isL p && Nat.beq f 111, cI (if firstTa (asL p) < (asL p).length then firstTa (asL p) else -1), [])]
  | _ => []
noncomputable def pab2Ta : List (FuncId × Entry) := (173, E_IdxTa) :: pab1
noncomputable def q_ContTa (br : Br) (xs : List ByteArray) := evB br Tryz.prog pab2Ta [] LO0 Tryz.f110 [cP (pL xs), cP (.clo 111 [])]
noncomputable def E_ContTa : Entry := fun ivs => match ivs with
  | [.cv (.pv p), .cv (.pv (.clo f []))] => [(isL p && Nat.beq f 111, cB (decide (firstTa (asL p) < (asL p).length)), [])]
  | _ => []
def firstRb (xs : List ByteArray) : Nat := idxW (fun x => !cellB x) xs
noncomputable def LO_IdxRb : LoopT := fun _ ls => match ls with
  | [(.pv p, none), (.pv (.clo f []), none), (.pv (.int .i64 n), none), (.pv (.int .i64 i), none)] =>
    [(isL p && Nat.beq f 168 && (n == ((asL p).length : Int)) && (i == 0) && decide (firstRb (asL p) < (asL p).length), .ret, [aI (firstRb (asL p))]),
     (isL p && Nat.beq f 168 && (n == ((asL p).length : Int)) && (i == 0), .exit 0, [aX])]
  | _ => []
noncomputable def r_IdxRb (br : Br) (xs : List ByteArray) (i : Int) := rdB br Tryz.prog pab1 lp_IndexS LO_IdxRb Tryz.f173 2 [] [aP (pL xs), aP (.clo 168 []), aI xs.length, aI i]
noncomputable def q_IdxRb (br : Br) (xs : List ByteArray) := evB br Tryz.prog pab1 lp_IndexS LO_IdxRb Tryz.f173 [cP (pL xs), cP (.clo 168 [])]
noncomputable def E_IdxRb : Entry := fun ivs => match ivs with
  | [.cv (.pv p), .cv (.pv (.clo f []))] => [(isL p && Nat.beq f 168, cI (if firstRb (asL p) < (asL p).length then firstRb (asL p) else -1), [])]
  | _ => []
noncomputable def pab2Rb : List (FuncId × Entry) := (173, E_IdxRb) :: pab1
noncomputable def q_ContRb (br : Br) (xs : List ByteArray) := evB br Tryz.prog pab2Rb [] LO0 Tryz.f110 [cP (pL xs), cP (.clo 168 [])]
noncomputable def E_ContRb : Entry := fun ivs => match ivs with
  | [.cv (.pv p), .cv (.pv (.clo f []))] => [(isL p && Nat.beq f 168, cB (decide (firstRb (asL p) < (asL p).length)), [])]
  | _ => []
/-- Both at once. -/
noncomputable def E_ContAB : Entry := fun ivs => match ivs with
  | [.cv (.pv p), .cv (.pv (.clo f []))] => [(isL p && Nat.beq f 111, cB (decide (firstTa (asL p) < (asL p).length)), []), (isL p && Nat.beq f 168, cB (decide (firstRb (asL p) < (asL p).length)), [])]
  | _ => []
noncomputable def pab3 : List (FuncId × Entry) := (94, E_within) :: (108, E_count) :: (109, E_dist) :: (110, E_ContAB) :: (112, E_IndexS) :: pab0
abbrev lp_ITb : List (Nat × List Nat × List Nat) := [(7, [1, 3, 34, 35, 36], [2])]
noncomputable def LO_ITb : LoopT := fun _ ls => match ls with
  | [(.ptr x 0, some (.box [.pv (.str s), .pv (.str g), .pv p, .pv q])), (.pv (.int .i64 at_), none), (.pv r, none), (.pv (.int .i64 n), none), (.pv (.int .i64 i), none)] =>
    [(isL p && isL r && (n == ((asL r).length : Int)) && (at_ == 0) && (i == 0) && Nat.beq x 4096 && !idxB (asL p) (asL r) 0, .ret, [aB false]), (isL p && isL r && (n == ((asL r).length : Int)) && (at_ == 0) && (i == 0) && Nat.beq x 4096, .exit 0, [aX])]
  | _ => []
noncomputable def r_ITb (br : Br) (s g : ByteArray) (xs zs : List ByteArray) (q : PV) (a n i : Int) := rdB br Tryz.prog pab3 lp_ITb LO_ITb Tryz.f56 7 [] [aBx 1 [.pv (.str s), .pv (.str g), .pv (pL xs), .pv q], aI a, aP (pL zs), aI n, aI i]
noncomputable def q_ITb (br : Br) (b : TblT) := evB br Tryz.prog pab3 lp_ITb LO_ITb Tryz.f56 [cP (pTb b)]
end

section
set_option linter.unusedVariables false
set_option maxRecDepth 100000
theorem q_cloTa_eq (x : ByteArray) : q_cloTa brC x =
 brC (decide (ByteArray.size x ≤ 1000000))
  (some ((IV.cv (CV.pv (PV.bool !nameB x)), [])))
  (none) := by kernel_rfl
theorem q_cloRb_eq (x : ByteArray) : q_cloRb brC x =
 brC (decide (ByteArray.size x ≤ 1000000))
  (some ((IV.cv (CV.pv (PV.bool !cellB x)), [])))
  (none) := by kernel_rfl
theorem r_IdxRb_eq (xs : List ByteArray) (i : Int) : r_IdxRb brC xs i =
 brC (decide (i < (↑(List.length xs) : Int)))
  (brC (decide (0 ≤ i) && decide (i < (↑(List.length xs) : Int)))
    (brC (Nat.blt 0 (List.length (List.drop (Int.toNat i * 1) (List.map PV.str xs))) && PV.isStr (List.headD (List.drop (Int.toNat i * 1) (List.map PV.str xs)) PV.nilp) && true)
      (brC (decide (ByteArray.size (PV.asStr (List.headD (List.drop (Int.toNat i * 1) (List.map PV.str xs)) PV.nilp)) ≤ 1000000))
        (brC (!cellB (PV.asStr (List.headD (List.drop (Int.toNat i * 1) (List.map PV.str xs)) PV.nilp)))
          (some (Sum.inr (Ex.ret, [(AV.pv (PV.int IntKind.i64 i), none)])))
          (some (Sum.inl [(AV.pv (PV.sl (List.length xs) (List.map PV.str xs)), none), (AV.pv (PV.clo 168 []), none), (AV.pv (PV.int IntKind.i64 (↑(List.length xs) : Int)), none), (AV.pv (PV.int IntKind.i64 (IntKind.wrap IntKind.i64 (i + 1))), none)])))
        (none))
      (none))
    (none))
  (some (Sum.inr (Ex.exit 0, [(AV.bad, none)]))) := by kernel_rfl
theorem r_IdxTa_eq (xs : List ByteArray) (i : Int) : r_IdxTa brC xs i =
 brC (decide (i < (↑(List.length xs) : Int)))
  (brC (decide (0 ≤ i) && decide (i < (↑(List.length xs) : Int)))
    (brC (Nat.blt 0 (List.length (List.drop (Int.toNat i * 1) (List.map PV.str xs))) && PV.isStr (List.headD (List.drop (Int.toNat i * 1) (List.map PV.str xs)) PV.nilp) && true)
      (brC (decide (ByteArray.size (PV.asStr (List.headD (List.drop (Int.toNat i * 1) (List.map PV.str xs)) PV.nilp)) ≤ 1000000))
        (brC (!nameB (PV.asStr (List.headD (List.drop (Int.toNat i * 1) (List.map PV.str xs)) PV.nilp)))
          (some (Sum.inr (Ex.ret, [(AV.pv (PV.int IntKind.i64 i), none)])))
          (some (Sum.inl [(AV.pv (PV.sl (List.length xs) (List.map PV.str xs)), none), (AV.pv (PV.clo 111 []), none), (AV.pv (PV.int IntKind.i64 (↑(List.length xs) : Int)), none), (AV.pv (PV.int IntKind.i64 (IntKind.wrap IntKind.i64 (i + 1))), none)])))
        (none))
      (none))
    (none))
  (some (Sum.inr (Ex.exit 0, [(AV.bad, none)]))) := by kernel_rfl
theorem q_IdxRb_eq (xs : List ByteArray) : q_IdxRb brC xs =
 brC (isL (pL xs) && Nat.beq 168 168 && (↑(List.length xs) : Int) == (↑(List.length (asL (pL xs))) : Int) && 0 == 0 && decide (firstRb (asL (pL xs)) < List.length (asL (pL xs))))
  (some ((IV.cv (CV.pv (PV.int IntKind.i64 (↑(firstRb (asL (pL xs))) : Int))), [])))
  (brC (isL (pL xs) && Nat.beq 168 168 && (↑(List.length xs) : Int) == (↑(List.length (asL (pL xs))) : Int) && 0 == 0)
    (some ((IV.cv (CV.pv (PV.int IntKind.i64 (Int.negSucc 0))), [])))
    (none)) := by kernel_rfl
theorem r_ITb_eq (s : ByteArray) (g : ByteArray) (xs : List ByteArray) (zs : List ByteArray) (q : PV) (a : Int) (n : Int) (i : Int) : r_ITb brC s g xs zs q a n i =
 brC (decide (i < n))
  (brC (decide (0 ≤ i) && decide (i < (↑(List.length zs) : Int)))
    (brC (Nat.blt 0 (List.length (List.drop (Int.toNat i * 1) (List.map PV.str zs))) && PV.isStr (List.headD (List.drop (Int.toNat i * 1) (List.map PV.str zs)) PV.nilp) && true)
      (brC (isL (PV.sl (List.length xs) (List.map PV.str xs)))
        (brC (decide ((if firstS (asL (PV.sl (List.length xs) (List.map PV.str xs))) (PV.asStr (List.headD (List.drop (Int.toNat i * 1) (List.map PV.str zs)) PV.nilp)) < List.length (asL (PV.sl (List.length xs) (List.map PV.str xs))) then (↑(firstS (asL (PV.sl (List.length xs) (List.map PV.str xs))) (PV.asStr (List.headD (List.drop (Int.toNat i * 1) (List.map PV.str zs)) PV.nilp))) : Int) else -1) ≤ a))
          (some (Sum.inr (Ex.ret, [(AV.pv (PV.bool false), none)])))
          (some (Sum.inl [(AV.ptr 4096 0, some (Ob.box [CV.pv (PV.str s), CV.pv (PV.str g), CV.pv (PV.sl (List.length xs) (List.map PV.str xs)), CV.pv q])), (AV.pv (PV.int IntKind.i64 (if firstS (asL (PV.sl (List.length xs) (List.map PV.str xs))) (PV.asStr (List.headD (List.drop (Int.toNat i * 1) (List.map PV.str zs)) PV.nilp)) < List.length (asL (PV.sl (List.length xs) (List.map PV.str xs))) then (↑(firstS (asL (PV.sl (List.length xs) (List.map PV.str xs))) (PV.asStr (List.headD (List.drop (Int.toNat i * 1) (List.map PV.str zs)) PV.nilp))) : Int) else -1)), none), (AV.pv (PV.sl (List.length zs) (List.map PV.str zs)), none), (AV.pv (PV.int IntKind.i64 n), none), (AV.pv (PV.int IntKind.i64 (IntKind.wrap IntKind.i64 (i + 1))), none)])))
        (none))
      (none))
    (none))
  (some (Sum.inr (Ex.exit 0, [(AV.bad, none)]))) := by kernel_rfl
theorem q_IdxTa_eq (xs : List ByteArray) : q_IdxTa brC xs =
 brC (isL (pL xs) && Nat.beq 111 111 && (↑(List.length xs) : Int) == (↑(List.length (asL (pL xs))) : Int) && 0 == 0 && decide (firstTa (asL (pL xs)) < List.length (asL (pL xs))))
  (some ((IV.cv (CV.pv (PV.int IntKind.i64 (↑(firstTa (asL (pL xs))) : Int))), [])))
  (brC (isL (pL xs) && Nat.beq 111 111 && (↑(List.length xs) : Int) == (↑(List.length (asL (pL xs))) : Int) && 0 == 0)
    (some ((IV.cv (CV.pv (PV.int IntKind.i64 (Int.negSucc 0))), [])))
    (none)) := by kernel_rfl
theorem q_ContRb_eq (xs : List ByteArray) : q_ContRb brC xs =
 brC (isL (PV.sl (List.length xs) (List.map PV.str xs)) && Nat.beq 168 168)
  (some ((IV.cv (CV.pv (PV.bool (decide ((if firstRb (asL (PV.sl (List.length xs) (List.map PV.str xs))) < List.length (asL (PV.sl (List.length xs) (List.map PV.str xs))) then (↑(firstRb (asL (PV.sl (List.length xs) (List.map PV.str xs)))) : Int) else -1) ≥ 0)))), [])))
  (none) := by kernel_rfl
theorem q_count_eq (xs : List ByteArray) : q_count brC xs =
 some ((IV.cv (CV.pv (PV.int IntKind.i64 (↑(List.length xs) : Int))), [])) := by kernel_rfl
theorem q_ContTa_eq (xs : List ByteArray) : q_ContTa brC xs =
 brC (isL (PV.sl (List.length xs) (List.map PV.str xs)) && Nat.beq 111 111)
  (some ((IV.cv (CV.pv (PV.bool (decide ((if firstTa (asL (PV.sl (List.length xs) (List.map PV.str xs))) < List.length (asL (PV.sl (List.length xs) (List.map PV.str xs))) then (↑(firstTa (asL (PV.sl (List.length xs) (List.map PV.str xs)))) : Int) else -1) ≥ 0)))), [])))
  (none) := by kernel_rfl
theorem q_ITb_eq (b : TblT) : q_ITb brC b =
 brC (decide (ByteArray.size (TblT.name b) ≤ 1000000))
  (brC (!nameB (TblT.name b))
    (some ((IV.cv (CV.pv (PV.bool false)), [])))
    (brC (decide (ByteArray.size (TblT.glob b) ≤ 1000000))
      (brC (!nameB (TblT.glob b))
        (some ((IV.cv (CV.pv (PV.bool false)), [])))
        (brC (isL (PV.sl (List.length (TblT.cols b)) (List.map PV.str (TblT.cols b))))
          (brC (!(decide (1 ≤ (↑(List.length (asL (PV.sl (List.length (TblT.cols b)) (List.map PV.str (TblT.cols b))))) : Int)) && decide ((↑(List.length (asL (PV.sl (List.length (TblT.cols b)) (List.map PV.str (TblT.cols b))))) : Int) ≤ 5)))
            (some ((IV.cv (CV.pv (PV.bool false)), [])))
            (brC (isL (PV.sl (List.length (TblT.cols b)) (List.map PV.str (TblT.cols b))))
              (brC (!nodupX (asL (PV.sl (List.length (TblT.cols b)) (List.map PV.str (TblT.cols b)))))
                (some ((IV.cv (CV.pv (PV.bool false)), [])))
                (brC (isL (PV.sl (List.length (TblT.cols b)) (List.map PV.str (TblT.cols b))) && Nat.beq 111 111)
                  (brC (decide (firstTa (asL (PV.sl (List.length (TblT.cols b)) (List.map PV.str (TblT.cols b)))) < List.length (asL (PV.sl (List.length (TblT.cols b)) (List.map PV.str (TblT.cols b))))))
                    (some ((IV.cv (CV.pv (PV.bool false)), [])))
                    (brC (isL (pL (TblT.cols b)) && isL (pL (TblT.idxs b)) && (↑(List.length (TblT.idxs b)) : Int) == (↑(List.length (asL (pL (TblT.idxs b)))) : Int) && 0 == 0 && 0 == 0 && Nat.beq 4096 4096 && !idxB (asL (pL (TblT.cols b))) (asL (pL (TblT.idxs b))) 0)
                      (some ((IV.cv (CV.pv (PV.bool false)), [])))
                      (brC (isL (pL (TblT.cols b)) && isL (pL (TblT.idxs b)) && (↑(List.length (TblT.idxs b)) : Int) == (↑(List.length (asL (pL (TblT.idxs b)))) : Int) && 0 == 0 && 0 == 0 && Nat.beq 4096 4096)
                        (some ((IV.cv (CV.pv (PV.bool true)), [])))
                        (none))))
                  (brC (isL (PV.sl (List.length (TblT.cols b)) (List.map PV.str (TblT.cols b))) && Nat.beq 111 168)
                    (brC (decide (firstRb (asL (PV.sl (List.length (TblT.cols b)) (List.map PV.str (TblT.cols b)))) < List.length (asL (PV.sl (List.length (TblT.cols b)) (List.map PV.str (TblT.cols b))))))
                      (some ((IV.cv (CV.pv (PV.bool false)), [])))
                      (brC (isL (pL (TblT.cols b)) && isL (pL (TblT.idxs b)) && (↑(List.length (TblT.idxs b)) : Int) == (↑(List.length (asL (pL (TblT.idxs b)))) : Int) && 0 == 0 && 0 == 0 && Nat.beq 4096 4096 && !idxB (asL (pL (TblT.cols b))) (asL (pL (TblT.idxs b))) 0)
                        (some ((IV.cv (CV.pv (PV.bool false)), [])))
                        (brC (isL (pL (TblT.cols b)) && isL (pL (TblT.idxs b)) && (↑(List.length (TblT.idxs b)) : Int) == (↑(List.length (asL (pL (TblT.idxs b)))) : Int) && 0 == 0 && 0 == 0 && Nat.beq 4096 4096)
                          (some ((IV.cv (CV.pv (PV.bool true)), [])))
                          (none))))
                    (none))))
              (none)))
          (none)))
      (none)))
  (none) := by kernel_rfl
end

section
open Go.RowKit
set_option linter.unusedVariables false
set_option linter.unusedSimpArgs false
set_option maxRecDepth 100000

theorem ok_icell : EntryOk Tryz.prog 169 E_icell := ⟨⟨_, Tryz.func169, by kernel_rfl, by kernel_rfl⟩, fun ivs res bxs h => by
  unfold E_icell at h
  split at h
  · rename_i s
    obtain ⟨hc, he⟩ := pick1 h
    cases he
    have hc := of_decide_eq_true hc
    refine contract_flatG (ps := [.str s]) (v := .bool (cellB s)) rfl fun w com vals hv _ hgl => ?_
    obtain ⟨v, vs, rfl, hv1, hn⟩ := hv.of_cons
    rw [hn.of_nil]
    cases hv1
    exact cellOk_any s w (by omega)
  · cases h⟩
theorem PRep.row {w : World} {com : Nat → Nat} {v : Value} {xs : List ByteArray} (h : PRep w com v (pL xs)) (hf : ∀ b, w.heap.size ≤ b → com b = 0) : ∃ a c, v = .slice a xs.length c ∧ RowAt w w.heap.size a (strCells xs) := by
  cases xs with
  | nil =>
    cases h with
    | sl0 a c => exact ⟨a, c, rfl, fun h => absurd h (by simp [strCells])⟩
    | sl b off n cap cs l hnc hl h1 hcm hm he => exact ⟨_, _, rfl, fun h => absurd h (by simp [strCells])⟩
  | cons y ys =>
    cases h with
    | sl b off _ cap cs _ hnc hl h1 hcm hm he =>
      refine ⟨_, _, rfl, fun _ => ⟨b, off, rfl, ?_, ?_⟩⟩
      · rcases Nat.lt_or_ge b w.heap.size with h | h
        · exact h
        · have := hcm 0 (by simp)
          rw [hf b h] at this
          exact absurd this (Nat.not_lt_zero _)
      · intro i v hv
        have hi : i < (y :: ys).length := by
          have := (List.getElem?_eq_some_iff.1 hv).1
          simpa [strCells] using this
        have hlen : cs.length = (y :: ys).length := by rw [hl, List.length_map]
        have hj : i < cs.length := by rw [hlen]; exact hi
        have hj' : i < ((y :: ys).map PV.str).length := by rw [List.length_map]; exact hi
        have hp := he i hj hj'
        rw [List.getElem_map] at hp
        have hc := hm i cs[i] (List.getElem?_eq_getElem hj)
        rw [hc]
        have hv' : v = .string (y :: ys)[i] := by
          have : (strCells (y :: ys))[i]? = some (.string (y :: ys)[i]) := by
            unfold strCells
            rw [List.getElem?_map, List.getElem?_eq_getElem hi]
            rfl
          rw [this] at hv
          exact (Option.some.inj hv).symm
        rw [hv']
        generalize cs[i] = u at hp
        cases hp
        rfl
theorem ok_dist : EntryOk Tryz.prog 109 E_dist := ⟨⟨_, Tryz.func109, by kernel_rfl, by kernel_rfl⟩, fun ivs res bxs h => by
  unfold E_dist at h
  split at h
  · rename_i p
    obtain ⟨hc, he⟩ := pick1 h
    cases he
    obtain ⟨xs, rfl, hx⟩ := isL_inv hc
    have e4 : asL (pL xs) = xs := asL_mk xs
    rw [e4]
    refine contract_flatG (ps := [pL xs]) (v := .bool (nodupX xs)) rfl fun w com vals hv hfr hgl => ?_
    obtain ⟨v, vs, rfl, hv1, hn⟩ := hv.of_cons
    rw [hn.of_nil]
    obtain ⟨a, c, rfl, hr⟩ := hv1.row hfr
    have hl := hx.1
    exact distinct_any xs a c (nodupX xs) (by unfold nodupX; congr) w (by omega) hr
  · cases h⟩
theorem ok_count : EntryOk Tryz.prog 108 E_count := entry_of mix (tab := []) trivial (lp := []) (LO := LO0) ⟨Tryz.func108, by kernel_rfl, by kernel_rfl⟩ (by kernel_rfl) fun ivs res bxs h => by
  unfold E_count at h
  split at h
  · rename_i p
    obtain ⟨hc, he⟩ := pick1 h
    cases he
    obtain ⟨xs, rfl, hx⟩ := isL_inv hc
    have e4 : asL (pL xs) = xs := asL_mk xs
    rw [e4]
    exact ⟨noLoop (by kernel_rfl), q_count_eq xs⟩
  · cases h
theorem ok_pab0 : EntriesOk Tryz.prog pab0 := ⟨ok_INameOk, ok_icell, trivial⟩
theorem ok_cloTa : EntryOk Tryz.prog 111 E_cloTa := entry_of mix ok_pab0 (lp := []) (LO := LO0) ⟨Tryz.func111, by kernel_rfl, by kernel_rfl⟩ (by kernel_rfl) fun ivs res bxs h => by
  unfold E_cloTa at h
  split at h
  · rename_i s
    obtain ⟨hc, he⟩ := pick1 h
    cases he
    refine ⟨noLoop (by kernel_rfl), (q_cloTa_eq s).trans ?_⟩
    rw [hc]
    rfl
  · cases h
theorem ok_cloRb : EntryOk Tryz.prog 168 E_cloRb := entry_of mix ok_pab0 (lp := []) (LO := LO0) ⟨Tryz.func168, by kernel_rfl, by kernel_rfl⟩ (by kernel_rfl) fun ivs res bxs h => by
  unfold E_cloRb at h
  split at h
  · rename_i s
    obtain ⟨hc, he⟩ := pick1 h
    cases he
    refine ⟨noLoop (by kernel_rfl), (q_cloRb_eq s).trans ?_⟩
    rw [hc]
    rfl
  · cases h
theorem ok_pab1 : EntriesOk Tryz.prog pab1 := ⟨ok_cloTa, ok_cloRb, ok_pab0⟩
theorem IdxTa_loop (xs : List ByteArray) (hx : shL xs) : ∀ (m i : Nat), m + i = xs.length → LoopsTo (rdB brC Tryz.prog pab1 lp_IndexS LO_IdxTa Tryz.f173 2 []) [aP (pL xs), aP (.clo 111 []), aI xs.length, aI i]
    (if firstTa (xs.drop i) + i < xs.length then (.ret, [aI ((firstTa (xs.drop i) + i : Nat) : Int)]) else (.exit 0, [aX])) := by
  have hl := hx.1
  intro m
  induction m with
  | zero =>
    intro i hm
    obtain rfl : i = xs.length := by omega
    rw [List.drop_length, show firstTa [] = 0 from rfl, if_neg (by omega)]
    refine .done _ _ ((r_IdxTa_eq xs xs.length).trans ?_)
    rw [dF (by omega)]
    rfl
  | succ m ih =>
    intro i hm
    have hi : i < xs.length := by omega
    have ih' := ih (i + 1) (by omega)
    have tree := r_IdxTa_eq xs i
    simp (disch := omega) only [show decide ((i : Int) < (xs.length : Int)) = true from dT (by omega), show decide (0 ≤ (i : Int)) = true from dT (by omega), Int.toNat_natCast, drop_strs xs i hi, List.length_cons, List.headD_cons, PV.isStr, PV.asStr, blt0, wrap1, Bool.and_true, Bool.true_and] at tree
    have hsz := hx.2 xs[i] (List.getElem_mem hi)
    rw [dT hsz] at tree
    rw [List.drop_eq_getElem_cons hi]
    cases hin : (!nameB xs[i]) with
    | true =>
      rw [hin] at tree
      rw [show firstTa (xs[i] :: xs.drop (i + 1)) = 0 from idxW_in (p := fun x : ByteArray => !nameB x) hin, Nat.zero_add, if_pos hi]
      exact .done _ _ tree
    | false =>
      rw [hin] at tree
      rw [show firstTa (xs[i] :: xs.drop (i + 1)) = firstTa (xs.drop (i + 1)) + 1 from idxW_out (p := fun x : ByteArray => !nameB x) hin]
      have e : firstTa (xs.drop (i + 1)) + (i + 1) = firstTa (xs.drop (i + 1)) + 1 + i := by omega
      rw [e] at ih'
      exact .step _ _ _ tree ih'
theorem ok_IdxTa : EntryOk Tryz.prog 173 E_IdxTa := entry_of mix ok_pab1 (lp := lp_IndexS) (LO := LO_IdxTa) ⟨Tryz.func173, by kernel_rfl, by kernel_rfl⟩ (by kernel_rfl) fun ivs res bxs h => by
  unfold E_IdxTa at h
  split at h
  · rename_i p f
    obtain ⟨hc, he⟩ := pick1 h
    cases he
    rw [Bool.and_eq_true] at hc
    obtain ⟨xs, rfl, hx⟩ := isL_inv hc.1
    obtain rfl := Nat.eq_of_beq_eq_true hc.2
    refine ⟨oneLoop 2 (by kernel_rfl) (by kernel_rfl) (by kernel_rfl) ?_, (q_IdxTa_eq xs).trans ?_⟩
    · intro ls e ls' hl
      unfold LO_IdxTa at hl
      split at hl
      · rename_i p f n i
        cases hg : (isL p && Nat.beq f 111 && (n == ((asL p).length : Int)) && (i == 0)) with
        | false => rw [hg] at hl; simp only [pickA, Bool.false_and, cond_false] at hl; cases hl
        | true =>
          rw [hg, Bool.true_and] at hl
          simp only [Bool.and_eq_true, beq_iff_eq] at hg
          obtain ⟨⟨⟨g1, g3⟩, g4⟩, g5⟩ := hg
          obtain ⟨ys, rfl, hy⟩ := isL_inv g1
          simp only [asL_mk] at hl g4
          rw [Nat.eq_of_beq_eq_true g3, g4, g5]
          have := IdxTa_loop ys hy ys.length 0 (by omega)
          rw [List.drop_zero, Nat.add_zero] at this
          by_cases hlt : firstTa ys < ys.length
          · rw [dT hlt] at hl
            rw [if_pos hlt] at this
            cases hl
            exact this
          · rw [dF hlt] at hl
            rw [if_neg hlt] at this
            cases hl
            exact this
      · cases hl
    · have e4 : asL (pL xs) = xs := asL_mk xs
      rw [e4]
      simp only [isL_mk hx, asL_mk, isL, beq_self_eq_true, Bool.and_true, Bool.true_and, Nat.beq_refl]
      by_cases hlt : firstTa xs < xs.length
      · rw [dT hlt, if_pos hlt]
        rfl
      · rw [dF hlt, if_neg hlt]
        rfl
  · cases h
theorem ok_pab2Ta : EntriesOk Tryz.prog pab2Ta := ⟨ok_IdxTa, ok_pab1⟩
theorem ok_ContTa : EntryOk Tryz.prog 110 E_ContTa := entry_of mix ok_pab2Ta (lp := []) (LO := LO0) ⟨Tryz.func110, by kernel_rfl, by kernel_rfl⟩ (by kernel_rfl) fun ivs res bxs h => by
  unfold E_ContTa at h
  split at h
  · rename_i p f
    obtain ⟨hc, he⟩ := pick1 h
    cases he
    rw [Bool.and_eq_true] at hc
    obtain ⟨xs, rfl, hx⟩ := isL_inv hc.1
    obtain rfl := Nat.eq_of_beq_eq_true hc.2
    refine ⟨noLoop (by kernel_rfl), (q_ContTa_eq xs).trans ?_⟩
    have e4 : asL (pL xs) = xs := asL_mk xs
    rw [e4]
    simp only [isL_mk hx, asL_mk, isL, ifIdx]
    rfl
  · cases h
theorem IdxRb_loop (xs : List ByteArray) (hx : shL xs) : ∀ (m i : Nat), m + i = xs.length → LoopsTo (rdB brC Tryz.prog pab1 lp_IndexS LO_IdxRb Tryz.f173 2 []) [aP (pL xs), aP (.clo 168 []), aI xs.length, aI i]
    (if firstRb (xs.drop i) + i < xs.length then (.ret, [aI ((firstRb (xs.drop i) + i : Nat) : Int)]) else (.exit 0, [aX])) := by
  have hl := hx.1
  intro m
  induction m with
  | zero =>
    intro i hm
    obtain rfl : i = xs.length := by omega
    rw [List.drop_length, show firstRb [] = 0 from rfl, if_neg (by omega)]
    refine .done _ _ ((r_IdxRb_eq xs xs.length).trans ?_)
    rw [dF (by omega)]
    rfl
  | succ m ih =>
    intro i hm
    have hi : i < xs.length := by omega
    have ih' := ih (i + 1) (by omega)
    have tree := r_IdxRb_eq xs i
    simp (disch := omega) only [show decide ((i : Int) < (xs.length : Int)) = true from dT (by omega), show decide (0 ≤ (i : Int)) = true from dT (by omega), Int.toNat_natCast, drop_strs xs i hi, List.length_cons, List.headD_cons, PV.isStr, PV.asStr, blt0, wrap1, Bool.and_true, Bool.true_and] at tree
    have hsz := hx.2 xs[i] (List.getElem_mem hi)
    rw [dT hsz] at tree
    rw [List.drop_eq_getElem_cons hi]
    cases hin : (!cellB xs[i]) with
    | true =>
      rw [hin] at tree
      rw [show firstRb (xs[i] :: xs.drop (i + 1)) = 0 from idxW_in (p := fun x : ByteArray => !cellB x) hin, Nat.zero_add, if_pos hi]
      exact .done _ _ tree
    | false =>
      rw [hin] at tree
      rw [show firstRb (xs[i] :: xs.drop (i + 1)) = firstRb (xs.drop (i + 1)) + 1 from idxW_out (p := fun x : ByteArray => !cellB x) hin]
      have e : firstRb (xs.drop (i + 1)) + (i + 1) = firstRb (xs.drop (i + 1)) + 1 + i := by omega
      rw [e] at ih'
      exact .step _ _ _ tree ih'
theorem ok_IdxRb : EntryOk Tryz.prog 173 E_IdxRb := entry_of mix ok_pab1 (lp := lp_IndexS) (LO := LO_IdxRb) ⟨Tryz.func173, by kernel_rfl, by kernel_rfl⟩ (by kernel_rfl) fun ivs res bxs h => by
  unfold E_IdxRb at h
  split at h
  · rename_i p f
    obtain ⟨hc, he⟩ := pick1 h
    cases he
    rw [Bool.and_eq_true] at hc
    obtain ⟨xs, rfl, hx⟩ := isL_inv hc.1
    obtain rfl := Nat.eq_of_beq_eq_true hc.2
    refine ⟨oneLoop 2 (by kernel_rfl) (by kernel_rfl) (by kernel_rfl) ?_, (q_IdxRb_eq xs).trans ?_⟩
    · intro ls e ls' hl
      unfold LO_IdxRb at hl
      split at hl
      · rename_i p f n i
        cases hg : (isL p && Nat.beq f 168 && (n == ((asL p).length : Int)) && (i == 0)) with
        | false => rw [hg] at hl; simp only [pickA, Bool.false_and, cond_false] at hl; cases hl
        | true =>
          rw [hg, Bool.true_and] at hl
          simp only [Bool.and_eq_true, beq_iff_eq] at hg
          obtain ⟨⟨⟨g1, g3⟩, g4⟩, g5⟩ := hg
          obtain ⟨ys, rfl, hy⟩ := isL_inv g1
          simp only [asL_mk] at hl g4
          rw [Nat.eq_of_beq_eq_true g3, g4, g5]
          have := IdxRb_loop ys hy ys.length 0 (by omega)
          rw [List.drop_zero, Nat.add_zero] at this
          by_cases hlt : firstRb ys < ys.length
          · rw [dT hlt] at hl
            rw [if_pos hlt] at this
            cases hl
            exact this
          · rw [dF hlt] at hl
            rw [if_neg hlt] at this
            cases hl
            exact this
      · cases hl
    · have e4 : asL (pL xs) = xs := asL_mk xs
      rw [e4]
      simp only [isL_mk hx, asL_mk, isL, beq_self_eq_true, Bool.and_true, Bool.true_and, Nat.beq_refl]
      by_cases hlt : firstRb xs < xs.length
      · rw [dT hlt, if_pos hlt]
        rfl
      · rw [dF hlt, if_neg hlt]
        rfl
  · cases h
theorem ok_pab2Rb : EntriesOk Tryz.prog pab2Rb := ⟨ok_IdxRb, ok_pab1⟩
theorem ok_ContRb : EntryOk Tryz.prog 110 E_ContRb := entry_of mix ok_pab2Rb (lp := []) (LO := LO0) ⟨Tryz.func110, by kernel_rfl, by kernel_rfl⟩ (by kernel_rfl) fun ivs res bxs h => by
  unfold E_ContRb at h
  split at h
  · rename_i p f
    obtain ⟨hc, he⟩ := pick1 h
    cases he
    rw [Bool.and_eq_true] at hc
    obtain ⟨xs, rfl, hx⟩ := isL_inv hc.1
    obtain rfl := Nat.eq_of_beq_eq_true hc.2
    refine ⟨noLoop (by kernel_rfl), (q_ContRb_eq xs).trans ?_⟩
    have e4 : asL (pL xs) = xs := asL_mk xs
    rw [e4]
    simp only [isL_mk hx, asL_mk, isL, ifIdx]
    rfl
  · cases h
theorem ok_ContAB : EntryOk Tryz.prog 110 E_ContAB := ⟨ok_ContTa.1, fun ivs res bxs h => by
  unfold E_ContAB at h
  split at h
  · rename_i p f
    rcases pick2 h with ⟨hc, he⟩ | ⟨hc1, hc, he⟩
    · cases he
      refine ok_ContTa.2 _ _ _ ?_
      unfold E_ContTa
      dsimp only
      rw [hc]
      rfl
    · cases he
      refine ok_ContRb.2 _ _ _ ?_
      unfold E_ContRb
      dsimp only
      rw [hc]
      rfl
  · cases h⟩
theorem ok_pab3 : EntriesOk Tryz.prog pab3 := ⟨ok_within, ok_count, ok_dist, ok_ContAB, ok_IndexS, ok_pab0⟩
theorem first_all {α : Type} {p : α → Bool} (xs : List α) : decide (idxW (fun x => !p x) xs < xs.length) = !xs.all p := by
  induction xs with
  | nil => rfl
  | cons x xs ih =>
    rw [List.all_cons]
    cases hp : p x with
    | false =>
      rw [idxW_in (p := fun x => !p x) (by rw [hp]; rfl)]
      simp
    | true =>
      rw [idxW_out (p := fun x => !p x) (by rw [hp]; rfl), List.length_cons, Bool.true_and, ← ih]
      exact decide_eq_decide.2 (by omega)
theorem ITb_loop (s g : ByteArray) (xs zs : List ByteArray) (q : PV) (hx : shL xs) (hz : shL zs) : ∀ (m i : Nat) (a : Int), m + i = zs.length → LoopsTo (rdB brC Tryz.prog pab3 lp_ITb LO_ITb Tryz.f56 7 []) [aBx 1 [.pv (.str s), .pv (.str g), .pv (pL xs), .pv q], aI a, aP (pL zs), aI zs.length, aI i]
    (if idxB xs (zs.drop i) a = true then (.exit 0, [aX]) else (.ret, [aB false])) := by
  have hl := hz.1
  intro m
  induction m with
  | zero =>
    intro i a hm
    obtain rfl : i = zs.length := by omega
    rw [List.drop_length]
    refine .done _ _ ((r_ITb_eq s g xs zs q a zs.length zs.length).trans ?_)
    rw [dF (by omega)]
    rfl
  | succ m ih =>
    intro i a hm
    have hi : i < zs.length := by omega
    have ih' := ih (i + 1) (posS xs zs[i]) (by omega)
    have tree := r_ITb_eq s g xs zs q a zs.length i
    have e1 : isL (PV.sl xs.length (xs.map .str)) = true := isL_mk hx
    have e2 : asL (PV.sl xs.length (xs.map .str)) = xs := asL_mk xs
    simp (disch := omega) only [show decide ((i : Int) < (zs.length : Int)) = true from dT (by omega), show decide (0 ≤ (i : Int)) = true from dT (by omega), Int.toNat_natCast, drop_strs zs i hi, List.length_cons, List.headD_cons, PV.isStr, PV.asStr, blt0, wrap1, Bool.and_true, Bool.true_and, e1, e2] at tree
    rw [List.drop_eq_getElem_cons hi]
    have ep : (if firstS xs zs[i] < xs.length then ((firstS xs zs[i] : Nat) : Int) else -1) = posS xs zs[i] := rfl
    rw [ep] at tree
    show LoopsTo _ _ (if (decide (a < posS xs zs[i]) && idxB xs (zs.drop (i + 1)) (posS xs zs[i])) = true then _ else _)
    by_cases hp : posS xs zs[i] ≤ a
    · rw [dT hp] at tree
      rw [dF (show ¬ a < posS xs zs[i] by omega), Bool.false_and, if_neg Bool.false_ne_true]
      exact .done _ _ tree
    · rw [dF hp] at tree
      rw [dT (show a < posS xs zs[i] by omega), Bool.true_and]
      exact .step _ _ _ tree ih'
noncomputable def E_ITb : Entry := fun ivs => match ivs with | [.cv (.pv p)] => [(isTb p, cB (tblB (asTb p)), [])] | _ => []
theorem ok_ITb : EntryOk Tryz.prog 56 E_ITb := entry_of mix ok_pab3 (lp := lp_ITb) (LO := LO_ITb) ⟨Tryz.func56, by kernel_rfl, by kernel_rfl⟩ (by kernel_rfl) fun ivs res bxs h => by
  unfold E_ITb at h
  split at h
  · rename_i p
    obtain ⟨hc, he⟩ := pick1 h
    cases he
    obtain ⟨b, rfl, hb⟩ := isTb_inv hc
    obtain ⟨b1, b2, b3, b4⟩ := hb
    have e4 : asTb (pTb b) = b := asTb_mk b
    rw [e4]
    refine ⟨oneLoop 7 (by kernel_rfl) (by kernel_rfl) (by kernel_rfl) ?_, (q_ITb_eq b).trans ?_⟩
    · intro ls e ls' hl
      unfold LO_ITb at hl
      split at hl
      · rename_i x s g p q a r n i
        cases hg : (isL p && isL r && (n == ((asL r).length : Int)) && (a == 0) && (i == 0) && Nat.beq x 4096) with
        | false => rw [hg] at hl; simp only [pickA, Bool.false_and, cond_false] at hl; cases hl
        | true =>
          rw [hg, Bool.true_and] at hl
          simp only [Bool.and_eq_true, beq_iff_eq] at hg
          obtain ⟨⟨⟨⟨⟨g1, g2⟩, g3⟩, g4⟩, g5⟩, g6⟩ := hg
          obtain ⟨xs, rfl, hx⟩ := isL_inv g1
          obtain ⟨zs, rfl, hz⟩ := isL_inv g2
          have e1 : asL (pL xs) = xs := asL_mk xs
          have e2 : asL (pL zs) = zs := asL_mk zs
          rw [e1, e2] at hl
          rw [e2] at g3
          have := ITb_loop s g xs zs q hx hz zs.length 0 0 (by omega)
          rw [List.drop_zero] at this
          rw [g3, g4, g5, Nat.eq_of_beq_eq_true g6]
          cases hB : idxB xs zs 0 with
          | true =>
            rw [hB] at hl this
            cases hl
            exact this
          | false =>
            rw [hB] at hl this
            cases hl
            exact this
      · cases hl
    · have e1 : isL (PV.sl b.cols.length (b.cols.map .str)) = true := isL_mk b3
      have e2 : asL (PV.sl b.cols.length (b.cols.map .str)) = b.cols := asL_mk b.cols
      have e3 : isL (pL b.idxs) = true := isL_mk b4
      have e5 : asL (pL b.idxs) = b.idxs := asL_mk b.idxs
      have e6 : isL (pL b.cols) = true := isL_mk b3
      have e7 : asL (pL b.cols) = b.cols := asL_mk b.cols
      have hA : decide (firstTa b.cols < b.cols.length) = !b.cols.all nameB := first_all (p := nameB) b.cols
      simp only [e1, e2, e3, e5, e6, e7, dT b1, dT b2, hA, beq_self_eq_true, Bool.and_true, Bool.true_and]
      have l1 : decide ((1 : Int) ≤ (b.cols.length : Int)) = decide (1 ≤ b.cols.length) := decide_eq_decide.2 (by omega)
      have l2 : decide ((b.cols.length : Int) ≤ 5) = decide (b.cols.length ≤ 5) := decide_eq_decide.2 (by omega)
      rw [l1, l2]
      unfold tblB
      cases nameB b.name <;> cases nameB b.glob <;> cases decide (1 ≤ b.cols.length) <;> cases decide (b.cols.length ≤ 5) <;> cases nodupX b.cols <;> cases b.cols.all nameB <;> cases idxB b.cols b.idxs 0 <;> rfl
  · cases h
end

section
open Go.RowKit
set_option linter.unusedVariables false

/-! The program. -/
noncomputable def pbb0 : List (FuncId × Entry) := (56, E_ITb) :: pab3
noncomputable def q_irow (br : Br) (b : TblT) (cs : List ByteArray) := evB br Tryz.prog pbb0 [] LO0 Tryz.f104 [cP (pTb b), cP (pRw cs)]
noncomputable def E_irow : Entry := fun ivs => match ivs with | [.cv (.pv p), .cv (.pv q)] => [(isTb p && isRw q && decide (1 ≤ (asTb p).cols.length), cB (rowB (asTb p) (asRw q)), [])] | _ => []
noncomputable def pbb1 : List (FuncId × Entry) := (104, E_irow) :: pbb0
noncomputable def q_iRowOk (br : Br) (b : TblT) (cs : List ByteArray) := evB br Tryz.prog pbb1 [] LO0 Tryz.f52 [cP (pTb b), cP (pRw cs)]
noncomputable def E_iRowOk : Entry := fun ivs => match ivs with | [.cv (.pv p), .cv (.pv q)] => [(isTb p && isRw q, cB (tblB (asTb p) && rowB (asTb p) (asRw q)), [])] | _ => []
noncomputable def E_Join : Entry := fun ivs => match ivs with | [.cv (.pv p), .cv (.pv (.str s))] => [(isL p && decide ((Lib.join ((asL p).map (·.data.toList)) s.data.toList).length ≤ 1000000), cS (bs (Lib.join ((asL p).map (·.data.toList)) s.data.toList)), [])] | _ => []
noncomputable def pbb2 : List (FuncId × Entry) := (52, E_iRowOk) :: (105, E_Join) :: pbb1
noncomputable def q_packed (br : Br) (cs : List ByteArray) := evB br Tryz.prog pbb2 [] LO0 Tryz.f53 [cP (pRw cs)]
noncomputable def E_packed : Entry := fun ivs => match ivs with | [.cv (.pv q)] => [(isRw q && decide (1 ≤ (asRw q).length) && decide ((packL (asRw q)).length ≤ 1000000), cS (bs (packL (asRw q))), [])] | _ => []
noncomputable def pbb3 : List (FuncId × Entry) := (53, E_packed) :: pbb2
noncomputable def q_PackRow (br : Br) (b : TblT) (cs : List ByteArray) := evB br Tryz.prog pbb3 [] LO0 Tryz.f12 [cP (pTb b), cP (pRw cs)]
def isCaret (t : ByteArray) : Prop := t = ⟨#[94]⟩
noncomputable def E_Split : Entry := fun ivs => match ivs with | [.cv (.pv (.str s)), .cv (.pv (.str t))] => [(decide (s.size ≤ 1000000) && holds (isCaret t), .cv (.lst 1 9 (cutV s).length ((cutV s).map .str) false), [])] | _ => []
noncomputable def pbb4 : List (FuncId × Entry) := (113, E_Split) :: pbb3
noncomputable def q_unpacked (br : Br) (b : TblT) (k v : ByteArray) := evB br Tryz.prog pbb4 [(1000000, [], [17])] LO0 Tryz.f57 [cP (pTb b), cS k, cS v]
noncomputable def E_unpacked : Entry := fun ivs => match ivs with
  | [.cv (.pv p), .cv (.pv (.str k)), .cv (.pv (.str v))] =>
    [(isTb p && decide (k.size ≤ 50000) && decide (v.size ≤ 50000) && tblB (asTb p) && unpB (asTb p) k v, .tup [.agg [.pv (pL (cellsW (asTb p) k v))], cI 0], []),
     (isTb p && decide (k.size ≤ 50000) && decide (v.size ≤ 50000) && tblB (asTb p), .tup [.agg [.pv .nils], cI 14], [])]
  | _ => []
noncomputable def pbb5 : List (FuncId × Entry) := (57, E_unpacked) :: pbb4
noncomputable def q_UnpackRow (br : Br) (b : TblT) (k v : ByteArray) := evB br Tryz.prog pbb5 [] LO0 Tryz.f14 [cP (pTb b), cS k, cS v]
end

section
set_option linter.unusedVariables false
set_option maxRecDepth 100000
theorem q_UnpackRow_eq (b : TblT) (k : ByteArray) (v : ByteArray) : q_UnpackRow brC b k v =
 brC (isTb (PV.agg [PV.str (TblT.name b), PV.str (TblT.glob b), PV.sl (List.length (TblT.cols b)) (List.map PV.str (TblT.cols b)), PV.sl (List.length (TblT.idxs b)) (List.map PV.str (TblT.idxs b))]))
  (brC (!tblB (asTb (PV.agg [PV.str (TblT.name b), PV.str (TblT.glob b), PV.sl (List.length (TblT.cols b)) (List.map PV.str (TblT.cols b)), PV.sl (List.length (TblT.idxs b)) (List.map PV.str (TblT.idxs b))])))
    (some ((IV.tup [IV.agg [CV.pv PV.nils], IV.cv (CV.pv (PV.int IntKind.i64 (Int.ofNat 1)))], [])))
    (brC (isTb (PV.agg [PV.str (TblT.name b), PV.str (TblT.glob b), PV.sl (List.length (TblT.cols b)) (List.map PV.str (TblT.cols b)), PV.sl (List.length (TblT.idxs b)) (List.map PV.str (TblT.idxs b))]) && decide (ByteArray.size k ≤ 50000) && decide (ByteArray.size v ≤ 50000) && tblB (asTb (PV.agg [PV.str (TblT.name b), PV.str (TblT.glob b), PV.sl (List.length (TblT.cols b)) (List.map PV.str (TblT.cols b)), PV.sl (List.length (TblT.idxs b)) (List.map PV.str (TblT.idxs b))])) && unpB (asTb (PV.agg [PV.str (TblT.name b), PV.str (TblT.glob b), PV.sl (List.length (TblT.cols b)) (List.map PV.str (TblT.cols b)), PV.sl (List.length (TblT.idxs b)) (List.map PV.str (TblT.idxs b))])) k v)
      (some ((IV.tup [IV.agg [CV.pv (PV.sl (List.length (cellsW (asTb (PV.agg [PV.str (TblT.name b), PV.str (TblT.glob b), PV.sl (List.length (TblT.cols b)) (List.map PV.str (TblT.cols b)), PV.sl (List.length (TblT.idxs b)) (List.map PV.str (TblT.idxs b))])) k v)) (List.map PV.str (cellsW (asTb (PV.agg [PV.str (TblT.name b), PV.str (TblT.glob b), PV.sl (List.length (TblT.cols b)) (List.map PV.str (TblT.cols b)), PV.sl (List.length (TblT.idxs b)) (List.map PV.str (TblT.idxs b))])) k v)))], IV.cv (CV.pv (PV.int IntKind.i64 (Int.ofNat 0)))], [])))
      (brC (isTb (PV.agg [PV.str (TblT.name b), PV.str (TblT.glob b), PV.sl (List.length (TblT.cols b)) (List.map PV.str (TblT.cols b)), PV.sl (List.length (TblT.idxs b)) (List.map PV.str (TblT.idxs b))]) && decide (ByteArray.size k ≤ 50000) && decide (ByteArray.size v ≤ 50000) && tblB (asTb (PV.agg [PV.str (TblT.name b), PV.str (TblT.glob b), PV.sl (List.length (TblT.cols b)) (List.map PV.str (TblT.cols b)), PV.sl (List.length (TblT.idxs b)) (List.map PV.str (TblT.idxs b))])))
        (some ((IV.tup [IV.agg [CV.pv PV.nils], IV.cv (CV.pv (PV.int IntKind.i64 (Int.ofNat 14)))], [])))
        (none))))
  (none) := by kernel_rfl
theorem q_unpacked_eq (b : TblT) (k : ByteArray) (v : ByteArray) : q_unpacked brC b k v =
 brC (decide ((↑(List.length (TblT.cols b)) : Int) > 1))
  (brC (decide (ByteArray.size v ≤ 1000000) && holds (isCaret { data := #[94] }))
    (brC (Nat.beq (List.length (List.map PV.str (cutV v))) (List.length (cutV v) * 1) && (decide (1 + List.length (cutV v) ≤ 140737488351232) && decide ((1 + List.length (cutV v)) * 16 ≤ 140737488355328)))
      (brC (isTb (PV.agg [PV.str (TblT.name b), PV.str (TblT.glob b), PV.sl (List.length (TblT.cols b)) (List.map PV.str (TblT.cols b)), PV.sl (List.length (TblT.idxs b)) (List.map PV.str (TblT.idxs b))]) && isRw (PV.agg [PV.sl (1 + List.length (cutV v)) (PV.str k :: List.append._f [] PUnit.unit (List.map PV.str (cutV v)))]) && decide (1 ≤ List.length (TblT.cols (asTb (PV.agg [PV.str (TblT.name b), PV.str (TblT.glob b), PV.sl (List.length (TblT.cols b)) (List.map PV.str (TblT.cols b)), PV.sl (List.length (TblT.idxs b)) (List.map PV.str (TblT.idxs b))])))))
        (brC (!rowB (asTb (PV.agg [PV.str (TblT.name b), PV.str (TblT.glob b), PV.sl (List.length (TblT.cols b)) (List.map PV.str (TblT.cols b)), PV.sl (List.length (TblT.idxs b)) (List.map PV.str (TblT.idxs b))])) (asRw (PV.agg [PV.sl (1 + List.length (cutV v)) (PV.str k :: List.append._f [] PUnit.unit (List.map PV.str (cutV v)))])))
          (some ((IV.tup [IV.agg [CV.pv PV.nils], IV.cv (CV.pv (PV.int IntKind.i64 (Int.ofNat 14)))], [])))
          (brC (isRw (PV.agg [PV.sl (1 + List.length (cutV v)) (PV.str k :: List.append._f [] PUnit.unit (List.map PV.str (cutV v)))]) && decide (1 ≤ List.length (asRw (PV.agg [PV.sl (1 + List.length (cutV v)) (PV.str k :: List.append._f [] PUnit.unit (List.map PV.str (cutV v)))]))) && decide (List.length (packL (asRw (PV.agg [PV.sl (1 + List.length (cutV v)) (PV.str k :: List.append._f [] PUnit.unit (List.map PV.str (cutV v)))]))) ≤ 1000000))
            (brC (!ByteArray.toList (bs (packL (asRw (PV.agg [PV.sl (1 + List.length (cutV v)) (PV.str k :: List.append._f [] PUnit.unit (List.map PV.str (cutV v)))])))) == ByteArray.toList v)
              (some ((IV.tup [IV.agg [CV.pv PV.nils], IV.cv (CV.pv (PV.int IntKind.i64 (Int.ofNat 14)))], [])))
              (some ((IV.tup [IV.agg [CV.pv (PV.sl (1 + List.length (cutV v)) (PV.str k :: List.append._f [] PUnit.unit (List.map PV.str (cutV v))))], IV.cv (CV.pv (PV.int IntKind.i64 (Int.ofNat 0)))], []))))
            (none)))
        (none))
      (none))
    (none))
  (brC (isTb (PV.agg [PV.str (TblT.name b), PV.str (TblT.glob b), PV.sl (List.length (TblT.cols b)) (List.map PV.str (TblT.cols b)), PV.sl (List.length (TblT.idxs b)) (List.map PV.str (TblT.idxs b))]) && isRw (PV.agg [PV.sl 1 [PV.str k]]) && decide (1 ≤ List.length (TblT.cols (asTb (PV.agg [PV.str (TblT.name b), PV.str (TblT.glob b), PV.sl (List.length (TblT.cols b)) (List.map PV.str (TblT.cols b)), PV.sl (List.length (TblT.idxs b)) (List.map PV.str (TblT.idxs b))])))))
    (brC (!rowB (asTb (PV.agg [PV.str (TblT.name b), PV.str (TblT.glob b), PV.sl (List.length (TblT.cols b)) (List.map PV.str (TblT.cols b)), PV.sl (List.length (TblT.idxs b)) (List.map PV.str (TblT.idxs b))])) (asRw (PV.agg [PV.sl 1 [PV.str k]])))
      (some ((IV.tup [IV.agg [CV.pv PV.nils], IV.cv (CV.pv (PV.int IntKind.i64 (Int.ofNat 14)))], [])))
      (brC (isRw (PV.agg [PV.sl 1 [PV.str k]]) && decide (1 ≤ List.length (asRw (PV.agg [PV.sl 1 [PV.str k]]))) && decide (List.length (packL (asRw (PV.agg [PV.sl 1 [PV.str k]]))) ≤ 1000000))
        (brC (!ByteArray.toList (bs (packL (asRw (PV.agg [PV.sl 1 [PV.str k]])))) == ByteArray.toList v)
          (some ((IV.tup [IV.agg [CV.pv PV.nils], IV.cv (CV.pv (PV.int IntKind.i64 (Int.ofNat 14)))], [])))
          (some ((IV.tup [IV.agg [CV.pv (PV.sl 1 [PV.str k])], IV.cv (CV.pv (PV.int IntKind.i64 (Int.ofNat 0)))], []))))
        (none)))
    (none)) := by kernel_rfl
theorem q_PackRow_eq (b : TblT) (cs : List ByteArray) : q_PackRow brC b cs =
 brC (isTb (PV.agg [PV.str (TblT.name b), PV.str (TblT.glob b), PV.sl (List.length (TblT.cols b)) (List.map PV.str (TblT.cols b)), PV.sl (List.length (TblT.idxs b)) (List.map PV.str (TblT.idxs b))]) && isRw (PV.agg [PV.sl (List.length cs) (List.map PV.str cs)]))
  (brC (!(tblB (asTb (PV.agg [PV.str (TblT.name b), PV.str (TblT.glob b), PV.sl (List.length (TblT.cols b)) (List.map PV.str (TblT.cols b)), PV.sl (List.length (TblT.idxs b)) (List.map PV.str (TblT.idxs b))])) && rowB (asTb (PV.agg [PV.str (TblT.name b), PV.str (TblT.glob b), PV.sl (List.length (TblT.cols b)) (List.map PV.str (TblT.cols b)), PV.sl (List.length (TblT.idxs b)) (List.map PV.str (TblT.idxs b))])) (asRw (PV.agg [PV.sl (List.length cs) (List.map PV.str cs)]))))
    (some ((IV.tup [IV.cv (CV.pv (PV.str { data := #[] })), IV.cv (CV.pv (PV.int IntKind.i64 (Int.ofNat 1)))], [])))
    (brC (isRw (PV.agg [PV.sl (List.length cs) (List.map PV.str cs)]) && decide (1 ≤ List.length (asRw (PV.agg [PV.sl (List.length cs) (List.map PV.str cs)]))) && decide (List.length (packL (asRw (PV.agg [PV.sl (List.length cs) (List.map PV.str cs)]))) ≤ 1000000))
      (some ((IV.tup [IV.cv (CV.pv (PV.str (bs (packL (asRw (PV.agg [PV.sl (List.length cs) (List.map PV.str cs)])))))), IV.cv (CV.pv (PV.int IntKind.i64 (Int.ofNat 0)))], [])))
      (none)))
  (none) := by kernel_rfl
theorem q_iRowOk_eq (b : TblT) (cs : List ByteArray) : q_iRowOk brC b cs =
 brC (isTb (PV.agg [PV.str (TblT.name b), PV.str (TblT.glob b), PV.sl (List.length (TblT.cols b)) (List.map PV.str (TblT.cols b)), PV.sl (List.length (TblT.idxs b)) (List.map PV.str (TblT.idxs b))]))
  (brC (tblB (asTb (PV.agg [PV.str (TblT.name b), PV.str (TblT.glob b), PV.sl (List.length (TblT.cols b)) (List.map PV.str (TblT.cols b)), PV.sl (List.length (TblT.idxs b)) (List.map PV.str (TblT.idxs b))])))
    (brC (isTb (PV.agg [PV.str (TblT.name b), PV.str (TblT.glob b), PV.sl (List.length (TblT.cols b)) (List.map PV.str (TblT.cols b)), PV.sl (List.length (TblT.idxs b)) (List.map PV.str (TblT.idxs b))]) && isRw (PV.agg [PV.sl (List.length cs) (List.map PV.str cs)]) && decide (1 ≤ List.length (TblT.cols (asTb (PV.agg [PV.str (TblT.name b), PV.str (TblT.glob b), PV.sl (List.length (TblT.cols b)) (List.map PV.str (TblT.cols b)), PV.sl (List.length (TblT.idxs b)) (List.map PV.str (TblT.idxs b))])))))
      (some ((IV.cv (CV.pv (PV.bool (rowB (asTb (PV.agg [PV.str (TblT.name b), PV.str (TblT.glob b), PV.sl (List.length (TblT.cols b)) (List.map PV.str (TblT.cols b)), PV.sl (List.length (TblT.idxs b)) (List.map PV.str (TblT.idxs b))])) (asRw (PV.agg [PV.sl (List.length cs) (List.map PV.str cs)]))))), [])))
      (none))
    (some ((IV.cv (CV.pv (PV.bool false)), []))))
  (none) := by kernel_rfl
theorem q_irow_eq (b : TblT) (cs : List ByteArray) : q_irow brC b cs =
 brC ((↑(List.length cs) : Int) == (↑(List.length (TblT.cols b)) : Int))
  (brC (decide (0 ≤ 0) && decide (0 < (↑(List.length cs) : Int)))
    (brC (Nat.blt 0 (List.length (List.drop 0 (List.map PV.str cs))) && PV.isStr (List.headD (List.drop 0 (List.map PV.str cs)) PV.nilp) && true)
      (brC (!ByteArray.toList (PV.asStr (List.headD (List.drop 0 (List.map PV.str cs)) PV.nilp)) == [])
        (brC (isL (PV.sl (List.length cs) (List.map PV.str cs)) && Nat.beq 168 111)
          (some ((IV.cv (CV.pv (PV.bool !decide (firstTa (asL (PV.sl (List.length cs) (List.map PV.str cs))) < List.length (asL (PV.sl (List.length cs) (List.map PV.str cs)))))), [])))
          (brC (isL (PV.sl (List.length cs) (List.map PV.str cs)) && Nat.beq 168 168)
            (some ((IV.cv (CV.pv (PV.bool !decide (firstRb (asL (PV.sl (List.length cs) (List.map PV.str cs))) < List.length (asL (PV.sl (List.length cs) (List.map PV.str cs)))))), [])))
            (none)))
        (some ((IV.cv (CV.pv (PV.bool false)), []))))
      (none))
    (none))
  (some ((IV.cv (CV.pv (PV.bool false)), []))) := by kernel_rfl
theorem q_packed_eq (cs : List ByteArray) : q_packed brC cs =
 brC (decide (0 ≤ 1) && decide (1 ≤ (↑(List.length cs) : Int)) && decide ((↑(List.length cs) : Int) ≤ (↑(List.length cs) : Int)) && true && true)
  (brC (isL (PV.sl (Int.toNat (↑(List.length cs) : Int) - 1) (List.take ((Int.toNat (↑(List.length cs) : Int) - 1) * 1) (List.drop (1 * 1) (List.map PV.str cs)))) && decide (List.length (Lib.join (List.map (fun x => Array.toList (ByteArray.data x)) (asL (PV.sl (Int.toNat (↑(List.length cs) : Int) - 1) (List.take ((Int.toNat (↑(List.length cs) : Int) - 1) * 1) (List.drop (1 * 1) (List.map PV.str cs)))))) [94]) ≤ 1000000))
    (some ((IV.cv (CV.pv (PV.str (bs (Lib.join (List.map (fun x => Array.toList (ByteArray.data x)) (asL (PV.sl (Int.toNat (↑(List.length cs) : Int) - 1) (List.take ((Int.toNat (↑(List.length cs) : Int) - 1) * 1) (List.drop (1 * 1) (List.map PV.str cs)))))) [94])))), [])))
    (none))
  (none) := by kernel_rfl
end

section
open Go.RowKit
set_option linter.unusedVariables false
set_option linter.unusedSimpArgs false
set_option maxRecDepth 100000

theorem ok_pbb0 : EntriesOk Tryz.prog pbb0 := ⟨ok_ITb, ok_pab3⟩
theorem toList_nil2 (s : ByteArray) : (ByteArray.toList s == ([] : List UInt8)) = s.data.toList.isEmpty := by
  rw [ByteArray.toList_eq]
  cases s.data.toList <;> rfl
theorem ok_irow : EntryOk Tryz.prog 104 E_irow := entry_of mix ok_pbb0 (lp := []) (LO := LO0) ⟨Tryz.func104, by kernel_rfl, by kernel_rfl⟩ (by kernel_rfl) fun ivs res bxs h => by
  unfold E_irow at h
  split at h
  · rename_i p q
    obtain ⟨hc, he⟩ := pick1 h
    cases he
    simp only [Bool.and_eq_true, decide_eq_true_eq] at hc
    obtain ⟨⟨h1, h2⟩, h3⟩ := hc
    obtain ⟨b, rfl, hb⟩ := isTb_inv h1
    obtain ⟨cs, rfl, hs⟩ := isRw_inv h2
    have e4 : asTb (pTb b) = b := asTb_mk b
    have e5 : asRw (pRw cs) = cs := asRw_mk cs
    rw [e4] at h3 ⊢
    rw [e5]
    refine ⟨noLoop (by kernel_rfl), (q_irow_eq b cs).trans ?_⟩
    have f1 : isL (PV.sl cs.length (cs.map .str)) = true := isL_mk hs
    have f2 : asL (PV.sl cs.length (cs.map .str)) = cs := asL_mk cs
    have hB : decide (firstRb cs < cs.length) = !cs.all cellB := first_all (p := cellB) cs
    have hl : ((cs.length : Int) == (b.cols.length : Int)) = decide (cs.length = b.cols.length) := by
      by_cases h : cs.length = b.cols.length
      · rw [h, beq_self_eq_true, decide_eq_true rfl]
      · rw [decide_eq_false h]; simp; omega
    rw [hl, f1, f2, hB]
    unfold rowB
    by_cases hlen : cs.length = b.cols.length
    · cases cs with
      | nil => rw [List.length_nil] at hlen; omega
      | cons c cs =>
        rw [dT hlen, dT (show (0 : Int) < ((c :: cs).length : Int) by rw [List.length_cons]; omega)]
        show brC (true && true) (brC (true && true && true) (brC (!(c.toList == ([] : List UInt8))) _ _) none) _ = some (cB (true && !c.data.toList.isEmpty && _), [])
        rw [toList_nil2]
        cases c.data.toList.isEmpty with
        | true => rfl
        | false =>
          cases (c :: cs).all cellB <;> rfl
    · rw [dF hlen]
      rfl
  · cases h
theorem ok_pbb1 : EntriesOk Tryz.prog pbb1 := ⟨ok_irow, ok_pbb0⟩
theorem tblB_cols {b : TblT} (h : tblB b = true) : 1 ≤ b.cols.length ∧ b.cols.length ≤ 5 := by
  unfold tblB at h
  simp only [Bool.and_eq_true, decide_eq_true_eq] at h
  exact ⟨h.1.1.1.1.2, h.1.1.1.2⟩
theorem ok_iRowOk : EntryOk Tryz.prog 52 E_iRowOk := entry_of mix ok_pbb1 (lp := []) (LO := LO0) ⟨Tryz.func52, by kernel_rfl, by kernel_rfl⟩ (by kernel_rfl) fun ivs res bxs h => by
  unfold E_iRowOk at h
  split at h
  · rename_i p q
    obtain ⟨hc, he⟩ := pick1 h
    cases he
    rw [Bool.and_eq_true] at hc
    obtain ⟨b, rfl, hb⟩ := isTb_inv hc.1
    obtain ⟨cs, rfl, hs⟩ := isRw_inv hc.2
    have e4 : asTb (pTb b) = b := asTb_mk b
    have e5 : asRw (pRw cs) = cs := asRw_mk cs
    rw [e4, e5]
    refine ⟨noLoop (by kernel_rfl), (q_iRowOk_eq b cs).trans ?_⟩
    simp only [isTb, isRw, isTb_mk hb, isRw_mk hs, asTb_mk, asRw_mk]
    cases hB : tblB b with
    | false => rfl
    | true =>
      rw [dT (tblB_cols hB).1]
      rfl
  · cases h
theorem ok_Join : EntryOk Tryz.prog 105 E_Join := ⟨⟨_, Tryz.func105, by kernel_rfl, by kernel_rfl⟩, fun ivs res bxs h => by
  unfold E_Join at h
  split at h
  · rename_i p s
    obtain ⟨hc, he⟩ := pick1 h
    cases he
    rw [Bool.and_eq_true, decide_eq_true_eq] at hc
    obtain ⟨xs, rfl, hx⟩ := isL_inv hc.1
    have e4 : asL (pL xs) = xs := asL_mk xs
    rw [e4] at hc ⊢
    have hl := hx.1
    refine contract_flatG (ps := [pL xs, .str s]) (v := .string (bs (Lib.join (xs.map (·.data.toList)) s.data.toList))) rfl fun w com vals hv hfr hgl => ?_
    obtain ⟨v, vs, rfl, hv1, hn⟩ := hv.of_cons
    obtain ⟨v2, vs2, rfl, hv2, hn2⟩ := hn.of_cons
    rw [hn2.of_nil]
    cases hv2
    cases xs with
    | nil =>
      obtain ⟨a, c, rfl, _⟩ := hv1.row hfr
      refine (Tryz.strings_Join_none a c s w).mono ?_
      rintro e w' ⟨rfl, rfl⟩
      exact ⟨by simp [Lib.join]; rfl, Below.refl _ _⟩
    | cons y ys =>
      cases hv1 with
      | sl b off n cap cs l hnc hl' h1 hcm hm he =>
        obtain ⟨a, c, hac, hr⟩ := (PRep.sl b off _ cap cs _ hnc hl' h1 hcm hm he).row hfr
        cases hac
        obtain ⟨b', off', ha, hb, hcell⟩ := hr (by simp [strCells])
        cases ha
        have hj : ∀ (j : Nat) x, (y :: ys)[j]? = some x → w.cell? ⟨b, off + j, none⟩ = some (.string x) := fun j x hx' => by
          refine hcell j _ ?_
          unfold strCells
          rw [List.getElem?_map, hx']
          rfl
        refine (Tryz.strings_Join b off cap (y :: ys) s w hj hb (by omega) hnc (by omega)).mono ?_
        rintro e w' ⟨rfl, hb'⟩
        exact ⟨rfl, hb'⟩
  · cases h⟩
theorem ok_pbb2 : EntriesOk Tryz.prog pbb2 := ⟨ok_iRowOk, ok_Join, ok_pbb1⟩
theorem ok_packed : EntryOk Tryz.prog 53 E_packed := entry_of mix ok_pbb2 (lp := []) (LO := LO0) ⟨Tryz.func53, by kernel_rfl, by kernel_rfl⟩ (by kernel_rfl) fun ivs res bxs h => by
  unfold E_packed at h
  split at h
  · rename_i q
    obtain ⟨hc, he⟩ := pick1 h
    cases he
    simp only [Bool.and_eq_true, decide_eq_true_eq] at hc
    obtain ⟨⟨h1, h2⟩, h3⟩ := hc
    obtain ⟨cs, rfl, hs⟩ := isRw_inv h1
    have e5 : asRw (pRw cs) = cs := asRw_mk cs
    rw [e5] at h2 h3 ⊢
    refine ⟨noLoop (by kernel_rfl), ?_⟩
    have tree := q_packed_eq cs
    have z1 : PV.sl (Int.toNat (cs.length : Int) - 1) (List.take ((Int.toNat (cs.length : Int) - 1) * 1) (List.drop (1 * 1) (List.map PV.str cs))) = PV.sl (cs.drop 1).length ((cs.drop 1).map .str) := by
      rw [List.length_drop, Int.toNat_natCast, Nat.mul_one, Nat.mul_one, ← List.map_drop, List.take_of_length_le (by rw [List.length_map, List.length_drop]; exact Nat.le_refl _)]
    have z2 : isL (PV.sl (cs.drop 1).length ((cs.drop 1).map .str)) = true := isL_mk ⟨by rw [List.length_drop]; have := hs.1; omega, fun u hu => hs.2 u (List.mem_of_mem_drop hu)⟩
    have z3 : asL (PV.sl (cs.drop 1).length ((cs.drop 1).map .str)) = cs.drop 1 := asL_mk _
    rw [z1, z2, z3] at tree
    have h3' : (Lib.join ((cs.drop 1).map (fun x => Array.toList (ByteArray.data x))) [94]).length ≤ 1000000 := h3
    simp (disch := omega) only [dT] at tree
    exact tree.trans rfl
  · cases h
theorem ok_pbb3 : EntriesOk Tryz.prog pbb3 := ⟨ok_packed, ok_pbb2⟩
/-- A row's value, or that it is none. -/
noncomputable def E_PackRow : Entry := fun ivs => match ivs with
  | [.cv (.pv p), .cv (.pv q)] => [(isTb p && isRw q && tblB (asTb p) && rowB (asTb p) (asRw q), .tup [cS (bs (packL (asRw q))), cI 0], []), (isTb p && isRw q, .tup [cS ⟨#[]⟩, cI 1], [])]
  | _ => []
theorem row_pack {b : TblT} {cs : List ByteArray} (hB : tblB b = true) (hR : rowB b cs = true) : 1 ≤ cs.length ∧ (packL cs).length ≤ 60 := by
  obtain ⟨r1, r2, r3⟩ := rowB_inv hR
  have := tblB_cols hB
  have := pack_len r3
  omega
theorem ok_PackRow : EntryOk Tryz.prog 12 E_PackRow := entry_of mix ok_pbb3 (lp := []) (LO := LO0) ⟨Tryz.func12, by kernel_rfl, by kernel_rfl⟩ (by kernel_rfl) fun ivs res bxs h => by
  unfold E_PackRow at h
  split at h
  · rename_i p q
    have key : ∀ b cs, shTb b → shL cs → evB brC Tryz.prog pbb3 [] LO0 Tryz.f12 [cP (pTb b), cP (pRw cs)] = if (tblB b && rowB b cs) = true then some (.tup [cS (bs (packL cs)), cI 0], []) else some (.tup [cS ⟨#[]⟩, cI 1], []) := fun b cs hb hs => by
      refine (q_PackRow_eq b cs).trans ?_
      simp only [isTb, isRw, isTb_mk hb, isRw_mk hs, asTb_mk, asRw_mk]
      cases hB : (tblB b && rowB b cs) with
      | false => rfl
      | true =>
        rw [Bool.and_eq_true] at hB
        obtain ⟨g1, g2⟩ := row_pack hB.1 hB.2
        rw [dT g1, dT (show (packL cs).length ≤ 1000000 by omega)]
        rfl
    refine ⟨noLoop (by kernel_rfl), ?_⟩
    rcases pick2 h with ⟨hc, he⟩ | ⟨hc1, hc, he⟩
    · cases he
      simp only [Bool.and_eq_true] at hc
      obtain ⟨⟨⟨h1, h2⟩, h3⟩, h4⟩ := hc
      obtain ⟨b, rfl, hb⟩ := isTb_inv h1
      obtain ⟨cs, rfl, hs⟩ := isRw_inv h2
      have e4 : asTb (pTb b) = b := asTb_mk b
      have e5 : asRw (pRw cs) = cs := asRw_mk cs
      rw [e4, e5] at h4
      rw [e4] at h3
      rw [key b cs hb hs, h3, h4, e5]
      rfl
    · cases he
      rw [Bool.and_eq_true] at hc
      obtain ⟨b, rfl, hb⟩ := isTb_inv hc.1
      obtain ⟨cs, rfl, hs⟩ := isRw_inv hc.2
      have e4 : asTb (pTb b) = b := asTb_mk b
      have e5 : asRw (pRw cs) = cs := asRw_mk cs
      rw [hc.1, hc.2, e4, e5, Bool.true_and, Bool.true_and] at hc1
      rw [key b cs hb hs, hc1]
      rfl
  · cases h
theorem contract_newG {P : Program} {g : FuncId} {ps : List PV} {k : Nat} {e : TypeId} {n : Nat} {l : List PV} (h : ∀ (w : World) (com : Nat → Nat) (vals : List Value), PReps w com vals ps → (∀ b, w.heap.size ≤ b → com b = 0) → Gl w com →
    Calls P g vals.toArray w fun ex w' => ∃ v xs, ex = .returned v ∧ w'.ownsRow w.heap.size e k v n xs ∧ PReps w com xs l ∧ (∀ u ∈ xs, u.oneCell' = true) ∧ Below w.heap.size w w') : Contract P g (ps.map fun p => .cv (.pv p)) (.cv (.lst k e n l false)) [] := by
  intro w com vals bs hI hnd hfresh hgl
  obtain ⟨hp, rfl⟩ := ivs_inv hI
  refine (h w com vals hp hfresh hgl).mono ?_
  rintro ex w' ⟨v, xs, rfl, ho, hr, h1, hb⟩
  have hnew : ∀ b, v.ownBlock = some b → w.heap.size ≤ b ∧ b < w'.heap.size := fun b hv => by
    rcases ho.2 with ⟨rfl, _⟩ | ⟨g', cap, cur, rfl, hge, hg, _⟩
    · cases hv
    · cases hv
      refine ⟨hge, ?_⟩
      have := (Array.getElem?_eq_some_iff.1 hg).1
      exact this
  have hx : Ext w com w' (fun b => if v.ownBlock = some b then n * k else com b) := by
    refine ⟨fun b => ?_, fun b i hi => ?_⟩
    · split
      · rename_i hv
        rw [hfresh b (hnew b hv).1]
        exact Nat.zero_le _
      · exact Nat.le_refl _
    · have hlt : b < w.heap.size := by
        rcases Nat.lt_or_ge b w.heap.size with h | h
        · exact h
        · rw [hfresh b h] at hi; exact absurd hi (Nat.not_lt_zero _)
      exact contract_flatG.cell_of_block (hb.block b hlt)
  have hown : w'.ownsRow 0 e k v n xs := by
    refine ⟨ho.1, ?_⟩
    rcases ho.2 with h | ⟨g', cap, cur, h1, h2, h3⟩
    · exact .inl h
    · exact .inr ⟨g', cap, cur, h1, Nat.zero_le _, h3⟩
  have hL : LRep w' (fun b => if v.ownBlock = some b then n * k else com b) v k e n l false xs := ⟨hown, hr.mono hx, h1, fun b hv => by rw [if_pos hv]; rfl⟩
  refine ⟨v, _, v.ownBlock.toList, [], rfl, hx, ⟨hb.os, hb.tape, hb.output, hb.size, fun b hlt _ => hb.block b hlt⟩, fun b hs => ?_, fun b hlt _ => ?_, .one _ _ _ (.cv _ _ _ (.lst v k e n l false xs hL)), ?_, ?_, ?_⟩
  · split
    · rename_i hv
      exact absurd (hnew b hv).2 (by omega)
    · exact hfresh b (Nat.le_trans hb.size hs)
  · split
    · rename_i hv
      exact absurd (hnew b hv).1 (by omega)
    · rfl
  · have : ∀ {ps : List PV} {vs : List Value}, vs.length = ps.length → BRep w' (fun b => if v.ownBlock = some b then n * k else com b) vs (ps.map fun p => .cv (.pv p)) [] [] := by
      intro ps
      induction ps with
      | nil => intro vs h; rw [List.length_eq_zero_iff.1 h]; exact .nil
      | cons p ps ih =>
        intro vs h
        cases vs with
        | nil => simp at h
        | cons v vs => exact .other _ _ _ _ _ _ rfl (ih (by simpa using h))
    exact this hp.1
  · rw [List.append_nil]
    cases v.ownBlock <;> simp
  · intro b hb'
    rw [List.append_nil] at hb'
    exact .inr (hnew b (Option.mem_toList.1 hb')).1
theorem strs_rep (w : World) (com : Nat → Nat) : ∀ xs : List ByteArray, PReps w com (xs.map Value.string) (xs.map PV.str)
  | [] => PReps.nil _ _
  | x :: xs => .cons (.str x) (strs_rep w com xs)
theorem ok_Split : EntryOk Tryz.prog 113 E_Split := ⟨⟨_, Tryz.func113, by kernel_rfl, by kernel_rfl⟩, fun ivs res bxs h => by
  unfold E_Split at h
  split at h
  · rename_i s t
    obtain ⟨hc, he⟩ := pick1 h
    cases he
    rw [Bool.and_eq_true, decide_eq_true_eq] at hc
    obtain rfl : t = ⟨#[94]⟩ := holds_inv hc.2
    have hs := hc.1
    refine contract_newG (ps := [.str s, .str ⟨#[94]⟩]) (k := 1) (e := 9) (n := (cutV s).length) (l := (cutV s).map .str) fun w com vals hv hfr hgl => ?_
    obtain ⟨v, vs, rfl, hv1, hn⟩ := hv.of_cons
    obtain ⟨v2, vs2, rfl, hv2, hn2⟩ := hn.of_cons
    rw [hn2.of_nil]
    cases hv1
    cases hv2
    obtain ⟨m, hm, _⟩ := hgl.1
    have hlen : (cutV s).length = Lib.countB s ⟨#[94]⟩ + 1 := Lib.splitB_all ⟨#[94]⟩ (by decide) 0 _ s rfl
    have hle : Lib.countB s ⟨#[94]⟩ ≤ s.size := Lib.countB_le ⟨#[94]⟩ (by decide) s.size s (Nat.le_refl _)
    refine (Tryz.strings_Split s ⟨#[94]⟩ m w (by omega) hm (by decide)).mono ?_
    rintro e w' ⟨rfl, rfl⟩
    refine ⟨_, (cutV s).map .string, rfl, ?_, strs_rep _ _ _, fun u hu => ?_, Below.alloc (B := w.heap.size) (a := w) (w := w) (Below.refl _ _) (Nat.le_refl _) _⟩
    · have := World.ownsRow_lit (base := w.heap.size) (e := 9) (size := 1) w ((cutV s).map Value.string).toArray (cutV s).length (Nat.le_refl _) (by unfold maxLen; omega) (by simp)
      rw [hlen] at this ⊢
      rw [show ((cutV s).map Value.string).toArray.toList = (cutV s).map Value.string by simp] at this
      exact this
    · obtain ⟨x, _, rfl⟩ := List.mem_map.1 hu
      rfl
  · cases h⟩
theorem ok_pbb4 : EntriesOk Tryz.prog pbb4 := ⟨ok_Split, ok_pbb3⟩
theorem ok_unpacked : EntryOk Tryz.prog 57 E_unpacked := entry_of mix ok_pbb4 (lp := [(1000000, [], [17])]) (LO := LO0) ⟨Tryz.func57, by kernel_rfl, by kernel_rfl⟩ (by kernel_rfl) fun ivs res bxs h => by
  unfold E_unpacked at h
  split at h
  · rename_i p k v
    have key : ∀ b, shTb b → k.size ≤ 50000 → v.size ≤ 50000 → tblB b = true → q_unpacked brC b k v = if unpB b k v = true then some (.tup [.agg [.pv (pL (cellsW b k v))], cI 0], []) else some (.tup [.agg [.pv .nils], cI 14], []) := fun b hb hk hv hB => by
      have tree := q_unpacked_eq b k v
      obtain ⟨c1, c5⟩ := tblB_cols hB
      have hsh := cut_sh hv
      have hpk := pack_cells b k v
      have fin : ∀ cs : List ByteArray, cellsW b k v = cs → shL cs → ∀ X : Option (IV × List (List CV)), X = brC (isTb (PV.agg [PV.str b.name, PV.str b.glob, PV.sl b.cols.length (b.cols.map PV.str), PV.sl b.idxs.length (b.idxs.map PV.str)]) && isRw (PV.agg [PV.sl cs.length (cs.map .str)]) && decide (1 ≤ (asTb (PV.agg [PV.str b.name, PV.str b.glob, PV.sl b.cols.length (b.cols.map PV.str), PV.sl b.idxs.length (b.idxs.map PV.str)])).cols.length))
          (brC (!rowB (asTb (PV.agg [PV.str b.name, PV.str b.glob, PV.sl b.cols.length (b.cols.map PV.str), PV.sl b.idxs.length (b.idxs.map PV.str)])) (asRw (PV.agg [PV.sl cs.length (cs.map .str)])))
            (some (.tup [.agg [.pv .nils], cI 14], []))
            (brC (isRw (PV.agg [PV.sl cs.length (cs.map .str)]) && decide (1 ≤ (asRw (PV.agg [PV.sl cs.length (cs.map .str)])).length) && decide ((packL (asRw (PV.agg [PV.sl cs.length (cs.map .str)]))).length ≤ 1000000))
              (brC (!(ByteArray.toList (bs (packL (asRw (PV.agg [PV.sl cs.length (cs.map .str)])))) == ByteArray.toList v))
                (some (.tup [.agg [.pv .nils], cI 14], []))
                (some (.tup [.agg [.pv (pL cs)], cI 0], [])))
              none))
          none → X = if unpB b k v = true then some (.tup [.agg [.pv (pL (cellsW b k v))], cI 0], []) else some (.tup [.agg [.pv .nils], cI 14], []) := fun cs hcs hsc X hX => by
        rw [hX]
        have f1 : isTb (PV.agg [PV.str b.name, PV.str b.glob, PV.sl b.cols.length (b.cols.map PV.str), PV.sl b.idxs.length (b.idxs.map PV.str)]) = true := isTb_mk hb
        have f2 : isRw (PV.agg [PV.sl cs.length (cs.map .str)]) = true := isRw_mk hsc
        have f3 : asTb (PV.agg [PV.str b.name, PV.str b.glob, PV.sl b.cols.length (b.cols.map PV.str), PV.sl b.idxs.length (b.idxs.map PV.str)]) = b := asTb_mk b
        have f4 : asRw (PV.agg [PV.sl cs.length (cs.map .str)]) = cs := asRw_mk cs
        rw [f1, f2, f3, f4, dT c1]
        unfold unpB
        rw [hcs] at hpk ⊢
        cases hR : rowB b cs with
        | false => rfl
        | true =>
          obtain ⟨g1, g2⟩ := row_pack hB hR
          rw [dT g1, dT (show (packL cs).length ≤ 1000000 by omega)]
          have e : (ByteArray.toList (bs (packL cs)) == ByteArray.toList v) = (decide (1 < b.cols.length) || v.data.toList.isEmpty) := by
            rw [bs_toList, ByteArray.toList_eq, Bool.eq_iff_iff, beq_iff_eq]
            exact hpk
          rw [e]
          cases (decide (1 < b.cols.length) || v.data.toList.isEmpty) <;> rfl
      by_cases h1 : 1 < b.cols.length
      · have hcs : cellsW b k v = k :: cutV v := by rw [cellsW_eq, if_pos h1]
        have hsc : shL (k :: cutV v) := ⟨by
          have h4 := (join_len (datas (cutV v))).1
          rw [(cut_facts v).1, List.length_map] at h4
          have hq : v.data.toList.length = v.size := by rw [Array.length_toList]; rfl
          rw [List.length_cons]
          omega, fun u hu => by
          rcases List.mem_cons.1 hu with rfl | hu
          · omega
          · exact hsh.2 u hu⟩
        have hl := hsh.1
        have hcar : holds (isCaret ⟨#[94]⟩) = true := holds_mk rfl
        have b1 : Nat.beq ((cutV v).map PV.str).length ((cutV v).length * 1) = true := by rw [List.length_map, Nat.mul_one]; exact Nat.beq_refl _
        rw [dT (show (b.cols.length : Int) > 1 by omega), hcar, b1, dT (show v.size ≤ 1000000 by omega), dT (show 1 + (cutV v).length ≤ 140737488351232 by omega), dT (show (1 + (cutV v).length) * 16 ≤ 140737488355328 by omega), Nat.add_comm 1] at tree
        exact fin _ hcs hsc _ (tree.trans rfl)
      · have hcs : cellsW b k v = [k] := by rw [cellsW_eq, if_neg h1]
        have hsc : shL [k] := ⟨by simp, fun u hu => by rw [List.mem_singleton.1 hu]; omega⟩
        rw [dF (show ¬ (b.cols.length : Int) > 1 by omega)] at tree
        exact fin _ hcs hsc _ (tree.trans rfl)
    refine ⟨noLoop (by kernel_rfl), ?_⟩
    rcases pick2 h with ⟨hc, he⟩ | ⟨hc1, hc, he⟩
    · cases he
      simp only [Bool.and_eq_true, decide_eq_true_eq] at hc
      obtain ⟨⟨⟨⟨h1, h2⟩, h3⟩, h4⟩, h5⟩ := hc
      obtain ⟨b, rfl, hb⟩ := isTb_inv h1
      have e4 : asTb (pTb b) = b := asTb_mk b
      rw [e4] at h4 h5 ⊢
      exact (key b hb h2 h3 h4).trans (by rw [if_pos h5])
    · cases he
      simp only [Bool.and_eq_true, decide_eq_true_eq] at hc
      obtain ⟨⟨⟨h1, h2⟩, h3⟩, h4⟩ := hc
      obtain ⟨b, rfl, hb⟩ := isTb_inv h1
      have e4 : asTb (pTb b) = b := asTb_mk b
      rw [h1, dT h2, dT h3, e4] at hc1
      rw [e4] at h4
      rw [h4] at hc1
      exact (key b hb h2 h3 h4).trans (by rw [if_neg (by rw [show unpB b k v = false from hc1]; exact Bool.false_ne_true)])
  · cases h
theorem ok_pbb5 : EntriesOk Tryz.prog pbb5 := ⟨ok_unpacked, ok_pbb4⟩
/-- What UnpackRow tells: a row, or what is wrong. -/
noncomputable def E_Unpack : Entry := fun ivs => match ivs with
  | [.cv (.pv p), .cv (.pv (.str k)), .cv (.pv (.str v))] =>
    [(isTb p && decide (k.size ≤ 50000) && decide (v.size ≤ 50000) && tblB (asTb p) && unpB (asTb p) k v, .tup [.agg [.pv (pL (cellsW (asTb p) k v))], cI 0], []),
     (isTb p && decide (k.size ≤ 50000) && decide (v.size ≤ 50000) && tblB (asTb p), .tup [.agg [.pv .nils], cI 14], []),
     (isTb p && decide (k.size ≤ 50000) && decide (v.size ≤ 50000), .tup [.agg [.pv .nils], cI 1], [])]
  | _ => []
theorem pick3 {α : Type} {a b c : Bool} {x y z q : α} (h : pickA [(a, x), (b, y), (c, z)] = some q) : (a = true ∧ x = q) ∨ (a = false ∧ b = true ∧ y = q) ∨ (a = false ∧ b = false ∧ c = true ∧ z = q) := by
  cases a with
  | true => cases h; exact .inl ⟨rfl, rfl⟩
  | false =>
    cases b with
    | true => cases h; exact .inr (.inl ⟨rfl, rfl, rfl⟩)
    | false =>
      cases c with
      | true => cases h; exact .inr (.inr ⟨rfl, rfl, rfl, rfl⟩)
      | false => cases h
theorem ok_UnpackRow : EntryOk Tryz.prog 14 E_Unpack := entry_of mix ok_pbb5 (lp := []) (LO := LO0) ⟨Tryz.func14, by kernel_rfl, by kernel_rfl⟩ (by kernel_rfl) fun ivs res bxs h => by
  unfold E_Unpack at h
  split at h
  · rename_i p k v
    refine ⟨noLoop (by kernel_rfl), ?_⟩
    have f1 : ∀ b, shTb b → isTb (PV.agg [PV.str b.name, PV.str b.glob, PV.sl b.cols.length (b.cols.map PV.str), PV.sl b.idxs.length (b.idxs.map PV.str)]) = true := fun b hb => isTb_mk hb
    have f3 : ∀ b : TblT, asTb (PV.agg [PV.str b.name, PV.str b.glob, PV.sl b.cols.length (b.cols.map PV.str), PV.sl b.idxs.length (b.idxs.map PV.str)]) = b := fun b => asTb_mk b
    rcases pick3 h with ⟨hc, he⟩ | ⟨hc0, hc, he⟩ | ⟨hc0, hc1, hc, he⟩
    · cases he
      simp only [Bool.and_eq_true, decide_eq_true_eq] at hc
      obtain ⟨⟨⟨⟨h1, h2⟩, h3⟩, h4⟩, h5⟩ := hc
      obtain ⟨b, rfl, hb⟩ := isTb_inv h1
      have e4 : asTb (pTb b) = b := asTb_mk b
      rw [e4] at h4 h5 ⊢
      have tree := q_UnpackRow_eq b k v
      rw [f1 b hb, f3, h4, h5, dT h2, dT h3] at tree
      exact tree.trans rfl
    · cases he
      simp only [Bool.and_eq_true, decide_eq_true_eq] at hc
      obtain ⟨⟨⟨h1, h2⟩, h3⟩, h4⟩ := hc
      obtain ⟨b, rfl, hb⟩ := isTb_inv h1
      have e4 : asTb (pTb b) = b := asTb_mk b
      rw [h1, dT h2, dT h3, e4] at hc0
      rw [e4] at h4
      rw [h4] at hc0
      have h5 : unpB b k v = false := hc0
      have tree := q_UnpackRow_eq b k v
      rw [f1 b hb, f3, h4, h5, dT h2, dT h3] at tree
      exact tree.trans rfl
    · cases he
      simp only [Bool.and_eq_true, decide_eq_true_eq] at hc
      obtain ⟨⟨h1, h2⟩, h3⟩ := hc
      obtain ⟨b, rfl, hb⟩ := isTb_inv h1
      have e4 : asTb (pTb b) = b := asTb_mk b
      rw [h1, dT h2, dT h3, e4] at hc1
      have h4 : tblB b = false := hc1
      have tree := q_UnpackRow_eq b k v
      rw [f1 b hb, f3, h4] at tree
      exact tree.trans rfl
  · cases h
end

section
open Go.RowKit
set_option linter.unusedVariables false

noncomputable def E_place : Entry := fun ivs => match ivs with | [.cv (.pv p), .cv (.pv (.str s))] => [(isL p, cI (posS (asL p) s), [])] | _ => []
abbrev lp_place : List (Nat × List Nat × List Nat) := [(2, [0, 1, 5], [4])]
noncomputable def LO_place : LoopT := fun _ ls => match ls with
  | [(.pv p, none), (.pv (.str s), none), (.pv (.int .i64 i), none)] => [(isL p && (i == 0) && decide (firstS (asL p) s < (asL p).length), .ret, [aI (firstS (asL p) s)]), (isL p && (i == 0), .exit 0, [aX])]
  | _ => []
noncomputable def r_place (br : Br) (xs : List ByteArray) (s : ByteArray) (i : Int) := rdB br Tryz.prog [] lp_place LO_place Tryz.f106 2 [] [aP (pL xs), aS s, aI i]
noncomputable def q_place (br : Br) (xs : List ByteArray) (s : ByteArray) := evB br Tryz.prog [] lp_place LO_place Tryz.f106 [cP (pL xs), cS s]
noncomputable def pdb0 : List (FuncId × Entry) := (29, E_l02Name) :: [(106, E_place)]
/-- The columns, one by one. -/
noncomputable def colF (cols : List ByteArray) : Nat → Nat → Bool
  | 0, _ => true
  | m + 1, i => nameB (cols.getD i ⟨#[]⟩) && decide (posS (cols.take i) (cols.getD i ⟨#[]⟩) < 0) && colF cols m (i + 1)
abbrev lp_STb : List (Nat × List Nat × List Nat) := [(4, [1, 3], [1, 2]), (10, [1, 4, 5], [2])]
noncomputable def LO_STb : LoopT := fun k ls => bif Nat.beq k 4 then (match ls with
  | [(.ptr x 0, some (.box [.pv (.str s), .pv (.str g), .pv p, .pv q])), (.pv (.int .i64 i), none)] =>
    [(isL p && (i == 0) && Nat.beq x 4096 && !colF (asL p) (asL p).length 0, .ret, [aBx 1 [.pv (.str s), .pv (.str g), .pv p, .pv q], aB false]),
     (isL p && (i == 0) && Nat.beq x 4096, .exit 0, [aBx 1 [.pv (.str s), .pv (.str g), .pv p, .pv q], aX])]
  | _ => []) else (match ls with
  | [(.ptr x 0, some (.box [.pv (.str s), .pv (.str g), .pv p, .pv q])), (.pv (.int .i64 a), none), (.pv (.int .i64 i), none)] =>
    [(isL p && isL q && (a == 0) && (i == 0) && Nat.beq x 4096 && !idxB (asL p) (asL q) 0, .ret, [aB false]), (isL p && isL q && (a == 0) && (i == 0) && Nat.beq x 4096, .exit 2, [aX])]
  | _ => [])
noncomputable def r_STb4 (br : Br) (s g : ByteArray) (xs : List ByteArray) (q : PV) (i : Int) := rdB br Tryz.prog pdb0 lp_STb LO_STb Tryz.f54 4 [] [aBx 1 [.pv (.str s), .pv (.str g), .pv (pL xs), .pv q], aI i]
noncomputable def r_STb10 (br : Br) (s g : ByteArray) (xs ys : List ByteArray) (a i : Int) := rdB br Tryz.prog pdb0 lp_STb LO_STb Tryz.f54 10 [] [aBx 1 [.pv (.str s), .pv (.str g), .pv (pL xs), .pv (pL ys)], aI a, aI i]
noncomputable def q_STb (br : Br) (b : TblT) := evB br Tryz.prog pdb0 lp_STb LO_STb Tryz.f54 [cP (pTb b)]
noncomputable def E_STb : Entry := fun ivs => match ivs with | [.cv (.pv p)] => [(isTb p, cB (tblB (asTb p)), [])] | _ => []
noncomputable def pdb1 : List (FuncId × Entry) := (54, E_STb) :: [(107, E_icell)]
abbrev lp_SRow : List (Nat × List Nat × List Nat) := [(4, [3, 5], [4])]
noncomputable def LO_SRow : LoopT := fun _ ls => match ls with
  | [(.ptr x 0, some (.box [.pv p])), (.pv (.int .i64 i), none)] => [(isL p && (i == 0) && Nat.beq x 12288 && !(asL p).all cellB, .ret, [aB false]), (isL p && (i == 0) && Nat.beq x 12288, .exit 0, [aX])]
  | _ => []
noncomputable def r_SRow (br : Br) (cs : List ByteArray) (i : Int) := rdB br Tryz.prog pdb1 lp_SRow LO_SRow Tryz.f55 4 [] [aBx 3 [.pv (pL cs)], aI i]
noncomputable def q_SRow (br : Br) (b : TblT) (cs : List ByteArray) := evB br Tryz.prog pdb1 lp_SRow LO_SRow Tryz.f55 [cP (pTb b), cP (pRw cs)]
noncomputable def pdb2 : List (FuncId × Entry) := (55, E_irow) :: pdb1
noncomputable def q_SRowOk (br : Br) (b : TblT) (cs : List ByteArray) := evB br Tryz.prog pdb2 [] LO0 Tryz.f13 [cP (pTb b), cP (pRw cs)]
/-! Cutting. -/
abbrev lp_SCut : List (Nat × List Nat × List Nat) := [(4, [0, 3, 4, 5], [3])]
noncomputable def LO_SCut : LoopT := fun _ ls => match ls with
  | [(.pv (.str s), none), (.own x, some (.lst 1 e cn cl false)), (.pv (.int .i64 f), none), (.pv (.int .i64 i), none)] =>
    [(decide (s.size ≤ 50000) && Nat.beq x 12288 && Nat.beq e 9 && Nat.beq cn 0 && nilB cl && (f == 0) && (i == 0), .exit 0, [aL 3 1 9 (cutV s).length ((cutV s).map .str)])]
  | _ => []
noncomputable def r_SCut (br : Br) (s : ByteArray) (cn : Nat) (cl : List PV) (f i : Int) := rdB br Tryz.prog [] lp_SCut LO_SCut Tryz.f114 4 [] [aS s, aL 3 1 9 cn cl, aI f, aI i]
noncomputable def q_SCut (br : Br) (s : ByteArray) := evB br Tryz.prog [] lp_SCut LO_SCut Tryz.f114 [cS s]
noncomputable def E_SCut : Entry := fun ivs => match ivs with | [.cv (.pv (.str s))] => [(decide (s.size ≤ 50000), .cv (.lst 1 9 (cutV s).length ((cutV s).map .str) false), [])] | _ => []
noncomputable def pdb3 : List (FuncId × Entry) := (114, E_SCut) :: pdb2
noncomputable def q_SUnp (br : Br) (b : TblT) (k v : ByteArray) := evB br Tryz.prog pdb3 [(1000000, [], [17])] LO0 Tryz.f61 [cP (pTb b), cS k, cS v]
noncomputable def pdb4 : List (FuncId × Entry) := (61, E_unpacked) :: pdb3
noncomputable def q_SUnpRow (br : Br) (b : TblT) (k v : ByteArray) := evB br Tryz.prog pdb4 [] LO0 Tryz.f16 [cP (pTb b), cS k, cS v]
/-! The same rows. -/
abbrev lp_Sta : List (Nat × List Nat × List Nat) := [(4, [0, 1, 5], [4])]
noncomputable def LO_Sta : LoopT := fun _ ls => match ls with
  | [(.pv p, none), (.pv q, none), (.pv (.int .i64 i), none)] =>
    [(isL p && isL q && (i == 0) && Nat.beq (asL p).length (asL q).length && !sameX (asL p) (asL q), .ret, [aB false]), (isL p && isL q && (i == 0) && Nat.beq (asL p).length (asL q).length, .exit 0, [aX])]
  | _ => []
noncomputable def r_Sta (br : Br) (xs ys : List ByteArray) (i : Int) := rdB br Tryz.prog [] lp_Sta LO_Sta Tryz.f115 4 [] [aP (pL xs), aP (pL ys), aI i]
noncomputable def q_Sta (br : Br) (xs ys : List ByteArray) := evB br Tryz.prog [] lp_Sta LO_Sta Tryz.f115 [cP (pL xs), cP (pL ys)]
noncomputable def E_Sta : Entry := fun ivs => match ivs with | [.cv (.pv p), .cv (.pv q)] => [(isL p && isL q && Nat.beq (asL p).length (asL q).length, cB (sameX (asL p) (asL q)), [])] | _ => []
noncomputable def pdb5 : List (FuncId × Entry) := [(115, E_Sta)]
noncomputable def q_Txt (br : Br) (xs ys : List ByteArray) := evB br Tryz.prog pdb5 [] LO0 Tryz.f62 [cP (pL xs), cP (pL ys)]
noncomputable def pdb6 : List (FuncId × Entry) := [(62, E_l02Same)]
noncomputable def LO_SmR : LoopT := fun _ ls => match ls with
  | [(.pv (.sl 1 [p]), none), (.pv (.sl 1 [q]), none), (.pv (.int .i64 i), none)] =>
    [(isL p && isL q && (i == 0) && !sameX (asL p) (asL q), .ret, [aB false]), (isL p && isL q && (i == 0), .exit 0, [aX])]
  | _ => []
noncomputable def r_SmR0 (br : Br) (xs ys : List ByteArray) := rdB br Tryz.prog pdb6 lp_Sta LO_SmR Tryz.f17 4 [] [aP (.sl 1 [pL xs]), aP (.sl 1 [pL ys]), aI 0]
noncomputable def r_SmR1 (br : Br) (xs ys : List ByteArray) := rdB br Tryz.prog pdb6 lp_Sta LO_SmR Tryz.f17 4 [] [aP (.sl 1 [pL xs]), aP (.sl 1 [pL ys]), aI 1]
noncomputable def q_SmR (br : Br) (xs ys : List ByteArray) := evB br Tryz.prog pdb6 lp_Sta LO_SmR Tryz.f17 [cP (.sl 1 [pL xs]), cP (.sl 1 [pL ys])]
noncomputable def E_SmR : Entry := fun ivs => match ivs with | [.cv (.pv (.sl 1 [p])), .cv (.pv (.sl 1 [q]))] => [(isL p && isL q, cB (sameX (asL p) (asL q)), [])] | _ => []
end

section
set_option linter.unusedVariables false
set_option maxRecDepth 100000
theorem q_SUnpRow_eq (b : TblT) (k : ByteArray) (v : ByteArray) : q_SUnpRow brC b k v =
 brC (isTb (PV.agg [PV.str (TblT.name b), PV.str (TblT.glob b), PV.sl (List.length (TblT.cols b)) (List.map PV.str (TblT.cols b)), PV.sl (List.length (TblT.idxs b)) (List.map PV.str (TblT.idxs b))]))
  (brC (!tblB (asTb (PV.agg [PV.str (TblT.name b), PV.str (TblT.glob b), PV.sl (List.length (TblT.cols b)) (List.map PV.str (TblT.cols b)), PV.sl (List.length (TblT.idxs b)) (List.map PV.str (TblT.idxs b))])))
    (some ((IV.tup [IV.agg [CV.pv PV.nils], IV.cv (CV.pv (PV.int IntKind.i64 (Int.ofNat 1)))], [])))
    (brC (isTb (PV.agg [PV.str (TblT.name b), PV.str (TblT.glob b), PV.sl (List.length (TblT.cols b)) (List.map PV.str (TblT.cols b)), PV.sl (List.length (TblT.idxs b)) (List.map PV.str (TblT.idxs b))]) && decide (ByteArray.size k ≤ 50000) && decide (ByteArray.size v ≤ 50000) && tblB (asTb (PV.agg [PV.str (TblT.name b), PV.str (TblT.glob b), PV.sl (List.length (TblT.cols b)) (List.map PV.str (TblT.cols b)), PV.sl (List.length (TblT.idxs b)) (List.map PV.str (TblT.idxs b))])) && unpB (asTb (PV.agg [PV.str (TblT.name b), PV.str (TblT.glob b), PV.sl (List.length (TblT.cols b)) (List.map PV.str (TblT.cols b)), PV.sl (List.length (TblT.idxs b)) (List.map PV.str (TblT.idxs b))])) k v)
      (some ((IV.tup [IV.agg [CV.pv (PV.sl (List.length (cellsW (asTb (PV.agg [PV.str (TblT.name b), PV.str (TblT.glob b), PV.sl (List.length (TblT.cols b)) (List.map PV.str (TblT.cols b)), PV.sl (List.length (TblT.idxs b)) (List.map PV.str (TblT.idxs b))])) k v)) (List.map PV.str (cellsW (asTb (PV.agg [PV.str (TblT.name b), PV.str (TblT.glob b), PV.sl (List.length (TblT.cols b)) (List.map PV.str (TblT.cols b)), PV.sl (List.length (TblT.idxs b)) (List.map PV.str (TblT.idxs b))])) k v)))], IV.cv (CV.pv (PV.int IntKind.i64 (Int.ofNat 0)))], [])))
      (brC (isTb (PV.agg [PV.str (TblT.name b), PV.str (TblT.glob b), PV.sl (List.length (TblT.cols b)) (List.map PV.str (TblT.cols b)), PV.sl (List.length (TblT.idxs b)) (List.map PV.str (TblT.idxs b))]) && decide (ByteArray.size k ≤ 50000) && decide (ByteArray.size v ≤ 50000) && tblB (asTb (PV.agg [PV.str (TblT.name b), PV.str (TblT.glob b), PV.sl (List.length (TblT.cols b)) (List.map PV.str (TblT.cols b)), PV.sl (List.length (TblT.idxs b)) (List.map PV.str (TblT.idxs b))])))
        (some ((IV.tup [IV.agg [CV.pv PV.nils], IV.cv (CV.pv (PV.int IntKind.i64 (Int.ofNat 14)))], [])))
        (none))))
  (none) := by kernel_rfl
theorem r_Sta_eq (xs : List ByteArray) (ys : List ByteArray) (i : Int) : r_Sta brC xs ys i =
 brC (decide (i < (↑(List.length xs) : Int)))
  (brC (decide (0 ≤ i) && decide (i < (↑(List.length xs) : Int)))
    (brC (Nat.blt 0 (List.length (List.drop (Int.toNat i * 1) (List.map PV.str xs))) && PV.isStr (List.headD (List.drop (Int.toNat i * 1) (List.map PV.str xs)) PV.nilp) && true)
      (brC (decide (0 ≤ i) && decide (i < (↑(List.length ys) : Int)))
        (brC (Nat.blt 0 (List.length (List.drop (Int.toNat i * 1) (List.map PV.str ys))) && PV.isStr (List.headD (List.drop (Int.toNat i * 1) (List.map PV.str ys)) PV.nilp) && true)
          (brC (!ByteArray.toList (PV.asStr (List.headD (List.drop (Int.toNat i * 1) (List.map PV.str xs)) PV.nilp)) == ByteArray.toList (PV.asStr (List.headD (List.drop (Int.toNat i * 1) (List.map PV.str ys)) PV.nilp)))
            (some (Sum.inr (Ex.ret, [(AV.pv (PV.bool false), none)])))
            (some (Sum.inl [(AV.pv (PV.sl (List.length xs) (List.map PV.str xs)), none), (AV.pv (PV.sl (List.length ys) (List.map PV.str ys)), none), (AV.pv (PV.int IntKind.i64 (IntKind.wrap IntKind.i64 (i + 1))), none)])))
          (none))
        (none))
      (none))
    (none))
  (some (Sum.inr (Ex.exit 0, [(AV.bad, none)]))) := by kernel_rfl
theorem q_SUnp_eq (b : TblT) (k : ByteArray) (v : ByteArray) : q_SUnp brC b k v =
 brC (decide ((↑(List.length (TblT.cols b)) : Int) > 1))
  (brC (decide (ByteArray.size v ≤ 50000))
    (brC (Nat.beq (List.length (List.map PV.str (cutV v))) (List.length (cutV v) * 1) && (decide (1 + List.length (cutV v) ≤ 140737488351232) && decide ((1 + List.length (cutV v)) * 16 ≤ 140737488355328)))
      (brC ((↑(List.length (TblT.cols b)) : Int) == 1)
        (brC (!ByteArray.toList v == [])
          (some ((IV.tup [IV.agg [CV.pv PV.nils], IV.cv (CV.pv (PV.int IntKind.i64 (Int.ofNat 14)))], [])))
          (brC (isTb (PV.agg [PV.str (TblT.name b), PV.str (TblT.glob b), PV.sl (List.length (TblT.cols b)) (List.map PV.str (TblT.cols b)), PV.sl (List.length (TblT.idxs b)) (List.map PV.str (TblT.idxs b))]) && isRw (PV.agg [PV.sl (1 + List.length (cutV v)) (PV.str k :: List.append._f [] PUnit.unit (List.map PV.str (cutV v)))]) && decide (1 ≤ List.length (TblT.cols (asTb (PV.agg [PV.str (TblT.name b), PV.str (TblT.glob b), PV.sl (List.length (TblT.cols b)) (List.map PV.str (TblT.cols b)), PV.sl (List.length (TblT.idxs b)) (List.map PV.str (TblT.idxs b))])))))
            (brC (!rowB (asTb (PV.agg [PV.str (TblT.name b), PV.str (TblT.glob b), PV.sl (List.length (TblT.cols b)) (List.map PV.str (TblT.cols b)), PV.sl (List.length (TblT.idxs b)) (List.map PV.str (TblT.idxs b))])) (asRw (PV.agg [PV.sl (1 + List.length (cutV v)) (PV.str k :: List.append._f [] PUnit.unit (List.map PV.str (cutV v)))])))
              (some ((IV.tup [IV.agg [CV.pv PV.nils], IV.cv (CV.pv (PV.int IntKind.i64 (Int.ofNat 14)))], [])))
              (some ((IV.tup [IV.agg [CV.pv (PV.sl (1 + List.length (cutV v)) (PV.str k :: List.append._f [] PUnit.unit (List.map PV.str (cutV v))))], IV.cv (CV.pv (PV.int IntKind.i64 (Int.ofNat 0)))], []))))
            (none)))
        (brC (isTb (PV.agg [PV.str (TblT.name b), PV.str (TblT.glob b), PV.sl (List.length (TblT.cols b)) (List.map PV.str (TblT.cols b)), PV.sl (List.length (TblT.idxs b)) (List.map PV.str (TblT.idxs b))]) && isRw (PV.agg [PV.sl (1 + List.length (cutV v)) (PV.str k :: List.append._f [] PUnit.unit (List.map PV.str (cutV v)))]) && decide (1 ≤ List.length (TblT.cols (asTb (PV.agg [PV.str (TblT.name b), PV.str (TblT.glob b), PV.sl (List.length (TblT.cols b)) (List.map PV.str (TblT.cols b)), PV.sl (List.length (TblT.idxs b)) (List.map PV.str (TblT.idxs b))])))))
          (brC (!rowB (asTb (PV.agg [PV.str (TblT.name b), PV.str (TblT.glob b), PV.sl (List.length (TblT.cols b)) (List.map PV.str (TblT.cols b)), PV.sl (List.length (TblT.idxs b)) (List.map PV.str (TblT.idxs b))])) (asRw (PV.agg [PV.sl (1 + List.length (cutV v)) (PV.str k :: List.append._f [] PUnit.unit (List.map PV.str (cutV v)))])))
            (some ((IV.tup [IV.agg [CV.pv PV.nils], IV.cv (CV.pv (PV.int IntKind.i64 (Int.ofNat 14)))], [])))
            (some ((IV.tup [IV.agg [CV.pv (PV.sl (1 + List.length (cutV v)) (PV.str k :: List.append._f [] PUnit.unit (List.map PV.str (cutV v))))], IV.cv (CV.pv (PV.int IntKind.i64 (Int.ofNat 0)))], []))))
          (none)))
      (none))
    (none))
  (brC ((↑(List.length (TblT.cols b)) : Int) == 1)
    (brC (!ByteArray.toList v == [])
      (some ((IV.tup [IV.agg [CV.pv PV.nils], IV.cv (CV.pv (PV.int IntKind.i64 (Int.ofNat 14)))], [])))
      (brC (isTb (PV.agg [PV.str (TblT.name b), PV.str (TblT.glob b), PV.sl (List.length (TblT.cols b)) (List.map PV.str (TblT.cols b)), PV.sl (List.length (TblT.idxs b)) (List.map PV.str (TblT.idxs b))]) && isRw (PV.agg [PV.sl 1 [PV.str k]]) && decide (1 ≤ List.length (TblT.cols (asTb (PV.agg [PV.str (TblT.name b), PV.str (TblT.glob b), PV.sl (List.length (TblT.cols b)) (List.map PV.str (TblT.cols b)), PV.sl (List.length (TblT.idxs b)) (List.map PV.str (TblT.idxs b))])))))
        (brC (!rowB (asTb (PV.agg [PV.str (TblT.name b), PV.str (TblT.glob b), PV.sl (List.length (TblT.cols b)) (List.map PV.str (TblT.cols b)), PV.sl (List.length (TblT.idxs b)) (List.map PV.str (TblT.idxs b))])) (asRw (PV.agg [PV.sl 1 [PV.str k]])))
          (some ((IV.tup [IV.agg [CV.pv PV.nils], IV.cv (CV.pv (PV.int IntKind.i64 (Int.ofNat 14)))], [])))
          (some ((IV.tup [IV.agg [CV.pv (PV.sl 1 [PV.str k])], IV.cv (CV.pv (PV.int IntKind.i64 (Int.ofNat 0)))], []))))
        (none)))
    (brC (isTb (PV.agg [PV.str (TblT.name b), PV.str (TblT.glob b), PV.sl (List.length (TblT.cols b)) (List.map PV.str (TblT.cols b)), PV.sl (List.length (TblT.idxs b)) (List.map PV.str (TblT.idxs b))]) && isRw (PV.agg [PV.sl 1 [PV.str k]]) && decide (1 ≤ List.length (TblT.cols (asTb (PV.agg [PV.str (TblT.name b), PV.str (TblT.glob b), PV.sl (List.length (TblT.cols b)) (List.map PV.str (TblT.cols b)), PV.sl (List.length (TblT.idxs b)) (List.map PV.str (TblT.idxs b))])))))
      (brC (!rowB (asTb (PV.agg [PV.str (TblT.name b), PV.str (TblT.glob b), PV.sl (List.length (TblT.cols b)) (List.map PV.str (TblT.cols b)), PV.sl (List.length (TblT.idxs b)) (List.map PV.str (TblT.idxs b))])) (asRw (PV.agg [PV.sl 1 [PV.str k]])))
        (some ((IV.tup [IV.agg [CV.pv PV.nils], IV.cv (CV.pv (PV.int IntKind.i64 (Int.ofNat 14)))], [])))
        (some ((IV.tup [IV.agg [CV.pv (PV.sl 1 [PV.str k])], IV.cv (CV.pv (PV.int IntKind.i64 (Int.ofNat 0)))], []))))
      (none))) := by kernel_rfl
theorem q_Txt_eq (xs : List ByteArray) (ys : List ByteArray) : q_Txt brC xs ys =
 brC ((↑(List.length xs) : Int) == (↑(List.length ys) : Int))
  (brC (isL (PV.sl (List.length xs) (List.map PV.str xs)) && isL (PV.sl (List.length ys) (List.map PV.str ys)) && Nat.beq (List.length (asL (PV.sl (List.length xs) (List.map PV.str xs)))) (List.length (asL (PV.sl (List.length ys) (List.map PV.str ys)))))
    (some ((IV.cv (CV.pv (PV.bool (sameX (asL (PV.sl (List.length xs) (List.map PV.str xs))) (asL (PV.sl (List.length ys) (List.map PV.str ys)))))), [])))
    (none))
  (some ((IV.cv (CV.pv (PV.bool false)), []))) := by kernel_rfl
theorem r_STb10_eq (s : ByteArray) (g : ByteArray) (xs : List ByteArray) (ys : List ByteArray) (a : Int) (i : Int) : r_STb10 brC s g xs ys a i =
 brC (decide (i < (↑(List.length ys) : Int)))
  (brC (decide (0 ≤ i) && decide (i < (↑(List.length ys) : Int)))
    (brC (Nat.blt 0 (List.length (List.drop (Int.toNat i * 1) (List.map PV.str ys))) && PV.isStr (List.headD (List.drop (Int.toNat i * 1) (List.map PV.str ys)) PV.nilp) && true)
      (brC (isL (PV.sl (List.length xs) (List.map PV.str xs)))
        (brC (decide (posS (asL (PV.sl (List.length xs) (List.map PV.str xs))) (PV.asStr (List.headD (List.drop (Int.toNat i * 1) (List.map PV.str ys)) PV.nilp)) ≤ a))
          (some (Sum.inr (Ex.ret, [(AV.pv (PV.bool false), none)])))
          (some (Sum.inl [(AV.ptr 4096 0, some (Ob.box [CV.pv (PV.str s), CV.pv (PV.str g), CV.pv (PV.sl (List.length xs) (List.map PV.str xs)), CV.pv (PV.sl (List.length ys) (List.map PV.str ys))])), (AV.pv (PV.int IntKind.i64 (posS (asL (PV.sl (List.length xs) (List.map PV.str xs))) (PV.asStr (List.headD (List.drop (Int.toNat i * 1) (List.map PV.str ys)) PV.nilp)))), none), (AV.pv (PV.int IntKind.i64 (IntKind.wrap IntKind.i64 (i + 1))), none)])))
        (none))
      (none))
    (none))
  (some (Sum.inr (Ex.exit 2, [(AV.bad, none)]))) := by kernel_rfl
theorem q_STb_eq (b : TblT) : q_STb brC b =
 brC (decide (ByteArray.size (TblT.name b) ≤ 1000000))
  (brC (!nameB (TblT.name b))
    (some ((IV.cv (CV.pv (PV.bool false)), [])))
    (brC (decide (ByteArray.size (TblT.glob b) ≤ 1000000))
      (brC (!nameB (TblT.glob b))
        (some ((IV.cv (CV.pv (PV.bool false)), [])))
        (brC (decide ((↑(List.length (TblT.cols b)) : Int) < 1))
          (some ((IV.cv (CV.pv (PV.bool false)), [])))
          (brC (decide ((↑(List.length (TblT.cols b)) : Int) > 5))
            (some ((IV.cv (CV.pv (PV.bool false)), [])))
            (brC (decide ((↑(List.length (TblT.idxs b)) : Int) ≥ (↑(List.length (TblT.cols b)) : Int)))
              (some ((IV.cv (CV.pv (PV.bool false)), [])))
              (brC (isL (pL (TblT.cols b)) && 0 == 0 && Nat.beq 4096 4096 && !colF (asL (pL (TblT.cols b))) (List.length (asL (pL (TblT.cols b)))) 0)
                (some ((IV.cv (CV.pv (PV.bool false)), [])))
                (brC (isL (pL (TblT.cols b)) && 0 == 0 && Nat.beq 4096 4096)
                  (brC (isL (pL (TblT.cols b)) && isL (pL (TblT.idxs b)) && 0 == 0 && 0 == 0 && Nat.beq 4096 4096 && !idxB (asL (pL (TblT.cols b))) (asL (pL (TblT.idxs b))) 0)
                    (some ((IV.cv (CV.pv (PV.bool false)), [])))
                    (brC (isL (pL (TblT.cols b)) && isL (pL (TblT.idxs b)) && 0 == 0 && 0 == 0 && Nat.beq 4096 4096)
                      (some ((IV.cv (CV.pv (PV.bool true)), [])))
                      (none)))
                  (none)))))))
      (none)))
  (none) := by kernel_rfl
theorem q_Sta_eq (xs : List ByteArray) (ys : List ByteArray) : q_Sta brC xs ys =
 brC (decide ((↑(List.length xs) : Int) > (↑(List.length ys) : Int)))
  (some ((IV.cv (CV.pv (PV.bool false)), [])))
  (brC (isL (pL xs) && isL (pL ys) && 0 == 0 && Nat.beq (List.length (asL (pL xs))) (List.length (asL (pL ys))) && !sameX (asL (pL xs)) (asL (pL ys)))
    (some ((IV.cv (CV.pv (PV.bool false)), [])))
    (brC (isL (pL xs) && isL (pL ys) && 0 == 0 && Nat.beq (List.length (asL (pL xs))) (List.length (asL (pL ys))))
      (some ((IV.cv (CV.pv (PV.bool true)), [])))
      (none))) := by kernel_rfl
theorem q_SRow_eq (b : TblT) (cs : List ByteArray) : q_SRow brC b cs =
 brC ((↑(List.length cs) : Int) != (↑(List.length (TblT.cols b)) : Int))
  (some ((IV.cv (CV.pv (PV.bool false)), [])))
  (brC (decide (0 ≤ 0) && decide (0 < (↑(List.length cs) : Int)))
    (brC (Nat.blt 0 (List.length (List.drop 0 (List.map PV.str cs))) && PV.isStr (List.headD (List.drop 0 (List.map PV.str cs)) PV.nilp) && true)
      (brC (ByteArray.toList (PV.asStr (List.headD (List.drop 0 (List.map PV.str cs)) PV.nilp)) == [])
        (some ((IV.cv (CV.pv (PV.bool false)), [])))
        (brC (isL (pL cs) && 0 == 0 && Nat.beq 12288 12288 && !List.all (asL (pL cs)) cellB)
          (some ((IV.cv (CV.pv (PV.bool false)), [])))
          (brC (isL (pL cs) && 0 == 0 && Nat.beq 12288 12288)
            (some ((IV.cv (CV.pv (PV.bool true)), [])))
            (none))))
      (none))
    (none)) := by kernel_rfl
theorem r_SCut_eq (s : ByteArray) (cn : Nat) (cl : List PV) (f : Int) (i : Int) : r_SCut brC s cn cl f i =
 brC (decide (i ≤ (↑(ByteArray.size s) : Int)))
  (brC (i == (↑(ByteArray.size s) : Int))
    (brC (decide (0 ≤ f) && decide (f ≤ i) && decide (i ≤ (↑(ByteArray.size s) : Int)) && true && true)
      (brC (Nat.beq (List.length [PV.str (ByteArray.extract s (Int.toNat f) (Int.toNat i))]) (1 * 1) && (decide (cn + 1 ≤ 140737488351232) && decide ((cn + 1) * 16 ≤ 140737488355328)))
        (some (Sum.inl [(AV.pv (PV.str s), none), (AV.own 12288, some (Ob.lst 1 9 (cn + 1) (cl ++ [PV.str (ByteArray.extract s (Int.toNat f) (Int.toNat i))]) false)), (AV.pv (PV.int IntKind.i64 (IntKind.wrap IntKind.i64 (i + 1))), none), (AV.pv (PV.int IntKind.i64 (IntKind.wrap IntKind.i64 (i + 1))), none)]))
        (none))
      (none))
    (brC (decide (0 ≤ i) && decide (i < (↑(ByteArray.size s) : Int)) && true)
      (brC ((↑(UInt8.toNat (List.getD (Array.toList (ByteArray.data s)) (Int.toNat i) 0)) : Int) == 94)
        (brC (decide (0 ≤ f) && decide (f ≤ i) && decide (i ≤ (↑(ByteArray.size s) : Int)) && true && true)
          (brC (Nat.beq (List.length [PV.str (ByteArray.extract s (Int.toNat f) (Int.toNat i))]) (1 * 1) && (decide (cn + 1 ≤ 140737488351232) && decide ((cn + 1) * 16 ≤ 140737488355328)))
            (some (Sum.inl [(AV.pv (PV.str s), none), (AV.own 12288, some (Ob.lst 1 9 (cn + 1) (cl ++ [PV.str (ByteArray.extract s (Int.toNat f) (Int.toNat i))]) false)), (AV.pv (PV.int IntKind.i64 (IntKind.wrap IntKind.i64 (i + 1))), none), (AV.pv (PV.int IntKind.i64 (IntKind.wrap IntKind.i64 (i + 1))), none)]))
            (none))
          (none))
        (some (Sum.inl [(AV.pv (PV.str s), none), (AV.own 12288, some (Ob.lst 1 9 cn cl false)), (AV.pv (PV.int IntKind.i64 f), none), (AV.pv (PV.int IntKind.i64 (IntKind.wrap IntKind.i64 (i + 1))), none)])))
      (none)))
  (some (Sum.inr (Ex.exit 0, [(AV.own 12288, some (Ob.lst 1 9 cn cl false))]))) := by kernel_rfl
theorem r_SmR0_eq (xs : List ByteArray) (ys : List ByteArray) : r_SmR0 brC xs ys =
 brC (isL (PV.sl (PV.slN (List.headD [pL xs] PV.nilp)) (PV.slL (List.headD [pL xs] PV.nilp))) && isL (PV.sl (PV.slN (List.headD [pL ys] PV.nilp)) (PV.slL (List.headD [pL ys] PV.nilp))))
  (brC (!sameX (asL (PV.sl (PV.slN (List.headD [pL xs] PV.nilp)) (PV.slL (List.headD [pL xs] PV.nilp)))) (asL (PV.sl (PV.slN (List.headD [pL ys] PV.nilp)) (PV.slL (List.headD [pL ys] PV.nilp)))))
    (some (Sum.inr (Ex.ret, [(AV.pv (PV.bool false), none)])))
    (some (Sum.inl [(AV.pv (PV.sl 1 [PV.sl (List.length xs) (List.map PV.str xs)]), none), (AV.pv (PV.sl 1 [PV.sl (List.length ys) (List.map PV.str ys)]), none), (AV.pv (PV.int IntKind.i64 (Int.ofNat 1)), none)])))
  (none) := by kernel_rfl
theorem q_SRowOk_eq (b : TblT) (cs : List ByteArray) : q_SRowOk brC b cs =
 brC (isTb (PV.agg [PV.str (TblT.name b), PV.str (TblT.glob b), PV.sl (List.length (TblT.cols b)) (List.map PV.str (TblT.cols b)), PV.sl (List.length (TblT.idxs b)) (List.map PV.str (TblT.idxs b))]))
  (brC (tblB (asTb (PV.agg [PV.str (TblT.name b), PV.str (TblT.glob b), PV.sl (List.length (TblT.cols b)) (List.map PV.str (TblT.cols b)), PV.sl (List.length (TblT.idxs b)) (List.map PV.str (TblT.idxs b))])))
    (brC (isTb (PV.agg [PV.str (TblT.name b), PV.str (TblT.glob b), PV.sl (List.length (TblT.cols b)) (List.map PV.str (TblT.cols b)), PV.sl (List.length (TblT.idxs b)) (List.map PV.str (TblT.idxs b))]) && isRw (PV.agg [PV.sl (List.length cs) (List.map PV.str cs)]) && decide (1 ≤ List.length (TblT.cols (asTb (PV.agg [PV.str (TblT.name b), PV.str (TblT.glob b), PV.sl (List.length (TblT.cols b)) (List.map PV.str (TblT.cols b)), PV.sl (List.length (TblT.idxs b)) (List.map PV.str (TblT.idxs b))])))))
      (some ((IV.cv (CV.pv (PV.bool (rowB (asTb (PV.agg [PV.str (TblT.name b), PV.str (TblT.glob b), PV.sl (List.length (TblT.cols b)) (List.map PV.str (TblT.cols b)), PV.sl (List.length (TblT.idxs b)) (List.map PV.str (TblT.idxs b))])) (asRw (PV.agg [PV.sl (List.length cs) (List.map PV.str cs)]))))), [])))
      (none))
    (some ((IV.cv (CV.pv (PV.bool false)), []))))
  (none) := by kernel_rfl
theorem r_SRow_eq (cs : List ByteArray) (i : Int) : r_SRow brC cs i =
 brC (decide (i < (↑(List.length cs) : Int)))
  (brC (decide (0 ≤ i) && decide (i < (↑(List.length cs) : Int)))
    (brC (Nat.blt 0 (List.length (List.drop (Int.toNat i * 1) (List.map PV.str cs))) && PV.isStr (List.headD (List.drop (Int.toNat i * 1) (List.map PV.str cs)) PV.nilp) && true)
      (brC (decide (ByteArray.size (PV.asStr (List.headD (List.drop (Int.toNat i * 1) (List.map PV.str cs)) PV.nilp)) ≤ 1000000))
        (brC (!cellB (PV.asStr (List.headD (List.drop (Int.toNat i * 1) (List.map PV.str cs)) PV.nilp)))
          (some (Sum.inr (Ex.ret, [(AV.pv (PV.bool false), none)])))
          (some (Sum.inl [(AV.ptr 12288 0, some (Ob.box [CV.pv (PV.sl (List.length cs) (List.map PV.str cs))])), (AV.pv (PV.int IntKind.i64 (IntKind.wrap IntKind.i64 (i + 1))), none)])))
        (none))
      (none))
    (none))
  (some (Sum.inr (Ex.exit 0, [(AV.bad, none)]))) := by kernel_rfl
theorem q_place_eq (xs : List ByteArray) (s : ByteArray) : q_place brC xs s =
 brC (isL (pL xs) && 0 == 0 && decide (firstS (asL (pL xs)) s < List.length (asL (pL xs))))
  (some ((IV.cv (CV.pv (PV.int IntKind.i64 (↑(firstS (asL (pL xs)) s) : Int))), [])))
  (brC (isL (pL xs) && 0 == 0)
    (some ((IV.cv (CV.pv (PV.int IntKind.i64 (Int.negSucc 0))), [])))
    (none)) := by kernel_rfl
theorem r_SmR1_eq (xs : List ByteArray) (ys : List ByteArray) : r_SmR1 brC xs ys =
 some (Sum.inr (Ex.exit 0, [(AV.bad, none)])) := by kernel_rfl
theorem r_place_eq (xs : List ByteArray) (s : ByteArray) (i : Int) : r_place brC xs s i =
 brC (decide (i < (↑(List.length xs) : Int)))
  (brC (decide (0 ≤ i) && decide (i < (↑(List.length xs) : Int)))
    (brC (Nat.blt 0 (List.length (List.drop (Int.toNat i * 1) (List.map PV.str xs))) && PV.isStr (List.headD (List.drop (Int.toNat i * 1) (List.map PV.str xs)) PV.nilp) && true)
      (brC (ByteArray.toList (PV.asStr (List.headD (List.drop (Int.toNat i * 1) (List.map PV.str xs)) PV.nilp)) == ByteArray.toList s)
        (some (Sum.inr (Ex.ret, [(AV.pv (PV.int IntKind.i64 i), none)])))
        (some (Sum.inl [(AV.pv (PV.sl (List.length xs) (List.map PV.str xs)), none), (AV.pv (PV.str s), none), (AV.pv (PV.int IntKind.i64 (IntKind.wrap IntKind.i64 (i + 1))), none)])))
      (none))
    (none))
  (some (Sum.inr (Ex.exit 0, [(AV.bad, none)]))) := by kernel_rfl
theorem q_SmR_eq (xs : List ByteArray) (ys : List ByteArray) : q_SmR brC xs ys =
 brC (isL (pL xs) && isL (pL ys) && 0 == 0 && !sameX (asL (pL xs)) (asL (pL ys)))
  (some ((IV.cv (CV.pv (PV.bool false)), [])))
  (brC (isL (pL xs) && isL (pL ys) && 0 == 0)
    (some ((IV.cv (CV.pv (PV.bool true)), [])))
    (none)) := by kernel_rfl
theorem r_STb4_eq (s : ByteArray) (g : ByteArray) (xs : List ByteArray) (q : PV) (i : Int) : r_STb4 brC s g xs q i =
 brC (decide (i < (↑(List.length xs) : Int)))
  (brC (decide (0 ≤ i) && decide (i < (↑(List.length xs) : Int)))
    (brC (Nat.blt 0 (List.length (List.drop (Int.toNat i * 1) (List.map PV.str xs))) && PV.isStr (List.headD (List.drop (Int.toNat i * 1) (List.map PV.str xs)) PV.nilp) && true)
      (brC (decide (ByteArray.size (PV.asStr (List.headD (List.drop (Int.toNat i * 1) (List.map PV.str xs)) PV.nilp)) ≤ 1000000))
        (brC (!nameB (PV.asStr (List.headD (List.drop (Int.toNat i * 1) (List.map PV.str xs)) PV.nilp)))
          (some (Sum.inr (Ex.ret, [(AV.ptr 4096 0, some (Ob.box [CV.pv (PV.str s), CV.pv (PV.str g), CV.pv (PV.sl (List.length xs) (List.map PV.str xs)), CV.pv q])), (AV.pv (PV.bool false), none)])))
          (brC (decide (0 ≤ 0) && decide (0 ≤ i) && decide (i ≤ (↑(List.length xs) : Int)) && true && true)
            (brC (decide (0 ≤ i) && decide (i < (↑(List.length xs) : Int)))
              (brC (Nat.blt 0 (List.length (List.drop (Int.toNat i * 1) (List.map PV.str xs))) && PV.isStr (List.headD (List.drop (Int.toNat i * 1) (List.map PV.str xs)) PV.nilp) && true)
                (brC (isL (PV.sl (Int.toNat i - 0) (List.take ((Int.toNat i - 0) * 1) (List.drop (0 * 1) (List.map PV.str xs)))))
                  (brC (decide (posS (asL (PV.sl (Int.toNat i - 0) (List.take ((Int.toNat i - 0) * 1) (List.drop (0 * 1) (List.map PV.str xs))))) (PV.asStr (List.headD (List.drop (Int.toNat i * 1) (List.map PV.str xs)) PV.nilp)) ≥ 0))
                    (some (Sum.inr (Ex.ret, [(AV.ptr 4096 0, some (Ob.box [CV.pv (PV.str s), CV.pv (PV.str g), CV.pv (PV.sl (List.length xs) (List.map PV.str xs)), CV.pv q])), (AV.pv (PV.bool false), none)])))
                    (some (Sum.inl [(AV.ptr 4096 0, some (Ob.box [CV.pv (PV.str s), CV.pv (PV.str g), CV.pv (PV.sl (List.length xs) (List.map PV.str xs)), CV.pv q])), (AV.pv (PV.int IntKind.i64 (IntKind.wrap IntKind.i64 (i + 1))), none)])))
                  (none))
                (none))
              (none))
            (none)))
        (none))
      (none))
    (none))
  (some (Sum.inr (Ex.exit 0, [(AV.ptr 4096 0, some (Ob.box [CV.pv (PV.str s), CV.pv (PV.str g), CV.pv (PV.sl (List.length xs) (List.map PV.str xs)), CV.pv q])), (AV.bad, none)]))) := by kernel_rfl
theorem q_SCut_eq (s : ByteArray) : q_SCut brC s =
 brC (decide (ByteArray.size s ≤ 50000) && Nat.beq 12288 12288 && Nat.beq 9 9 && Nat.beq 0 0 && nilB [] && 0 == 0 && 0 == 0)
  (some ((IV.cv (CV.lst 1 9 (List.length (cutV s)) (List.map PV.str (cutV s)) false), [])))
  (none) := by kernel_rfl
end

section
open Go.RowKit
set_option linter.unusedVariables false
set_option linter.unusedSimpArgs false
set_option maxRecDepth 100000

theorem place_loop (xs : List ByteArray) (hx : shL xs) (s : ByteArray) : ∀ (m i : Nat), m + i = xs.length → LoopsTo (rdB brC Tryz.prog [] lp_place LO_place Tryz.f106 2 []) [aP (pL xs), aS s, aI i]
    (if firstS (xs.drop i) s + i < xs.length then (.ret, [aI ((firstS (xs.drop i) s + i : Nat) : Int)]) else (.exit 0, [aX])) := by
  have hl := hx.1
  intro m
  induction m with
  | zero =>
    intro i hm
    obtain rfl : i = xs.length := by omega
    rw [List.drop_length, show firstS [] s = 0 from rfl, if_neg (by omega)]
    refine .done _ _ ((r_place_eq xs s xs.length).trans ?_)
    rw [dF (by omega)]
    rfl
  | succ m ih =>
    intro i hm
    have hi : i < xs.length := by omega
    have ih' := ih (i + 1) (by omega)
    have tree := r_place_eq xs s i
    simp (disch := omega) only [dT, Int.toNat_natCast, drop_strs xs i hi, List.length_cons, List.headD_cons, PV.isStr, PV.asStr, blt0, wrap1, Bool.and_true, Bool.true_and] at tree
    rw [List.drop_eq_getElem_cons hi]
    have hs : (xs[i].toList == s.toList) = sEq s xs[i] := by
      unfold sEq
      rw [Bool.eq_iff_iff, beq_iff_eq, beq_iff_eq]
      exact eq_comm
    rw [hs] at tree
    cases hin : sEq s xs[i] with
    | true =>
      rw [hin] at tree
      rw [show firstS (xs[i] :: xs.drop (i + 1)) s = 0 from idxW_in (p := fun x => sEq s x) hin, Nat.zero_add, if_pos hi]
      exact .done _ _ tree
    | false =>
      rw [hin] at tree
      rw [show firstS (xs[i] :: xs.drop (i + 1)) s = firstS (xs.drop (i + 1)) s + 1 from idxW_out (p := fun x => sEq s x) hin]
      have e : firstS (xs.drop (i + 1)) s + (i + 1) = firstS (xs.drop (i + 1)) s + 1 + i := by omega
      rw [e] at ih'
      exact .step _ _ _ tree ih'
theorem ok_place : EntryOk Tryz.prog 106 E_place := entry_of mix (tab := []) trivial (lp := lp_place) (LO := LO_place) ⟨Tryz.func106, by kernel_rfl, by kernel_rfl⟩ (by kernel_rfl) fun ivs res bxs h => by
  unfold E_place at h
  split at h
  · rename_i p s
    obtain ⟨hc, he⟩ := pick1 h
    cases he
    obtain ⟨xs, rfl, hx⟩ := isL_inv hc
    refine ⟨oneLoop 2 (by kernel_rfl) (by kernel_rfl) (by kernel_rfl) ?_, (q_place_eq xs s).trans ?_⟩
    · intro ls e ls' hl
      unfold LO_place at hl
      split at hl
      · rename_i p s i
        cases hg : (isL p && (i == 0)) with
        | false => rw [hg] at hl; simp only [pickA, Bool.false_and, cond_false] at hl; cases hl
        | true =>
          rw [hg, Bool.true_and] at hl
          simp only [Bool.and_eq_true, beq_iff_eq] at hg
          obtain ⟨g1, g2⟩ := hg
          obtain ⟨ys, rfl, hy⟩ := isL_inv g1
          simp only [asL_mk] at hl
          rw [g2]
          have := place_loop ys hy s ys.length 0 (by omega)
          rw [List.drop_zero, Nat.add_zero] at this
          by_cases hlt : firstS ys s < ys.length
          · rw [dT hlt] at hl
            rw [if_pos hlt] at this
            cases hl
            exact this
          · rw [dF hlt] at hl
            rw [if_neg hlt] at this
            cases hl
            exact this
      · cases hl
    · have e4 : asL (pL xs) = xs := asL_mk xs
      have e5 : isL (pL xs) = true := isL_mk hx
      rw [e4, e5]
      unfold posS
      by_cases hlt : firstS xs s < xs.length
      · rw [dT hlt, if_pos hlt]
        rfl
      · rw [dF hlt, if_neg hlt]
        rfl
  · cases h
theorem ok_pdb0 : EntriesOk Tryz.prog pdb0 := ⟨ok_SNameOk, ok_place, trivial⟩
theorem posS_neg (xs : List ByteArray) (s : ByteArray) : posS xs s < 0 ↔ s ∉ xs := by
  have h := first_all (p := fun x => !sEq s x) xs
  simp only [Bool.not_not] at h
  unfold posS firstS
  by_cases hm : s ∈ xs
  · have : (xs.all fun x => !sEq s x) = false := by
      rw [List.all_eq_false]
      exact ⟨s, hm, by rw [sEq_self]; decide⟩
    rw [this] at h
    rw [if_pos (of_decide_eq_true h)]
    exact ⟨fun g => by omega, fun g => absurd hm g⟩
  · have : (xs.all fun x => !sEq s x) = true := by
      rw [List.all_eq_true]
      intro x hx
      cases hs : sEq s x with
      | false => rfl
      | true => exact absurd (sEq_iff.1 hs ▸ hx) hm
    rw [this] at h
    rw [if_neg (of_decide_eq_false h)]
    exact ⟨fun _ => hm, fun _ => by omega⟩
theorem colF_iff : ∀ (r pre : List ByteArray), pre.Nodup → (colF (pre ++ r) r.length pre.length = true ↔ (r.all nameB = true ∧ (pre ++ r).Nodup))
  | [], pre, h => by
    rw [List.append_nil]
    exact ⟨fun _ => ⟨rfl, h⟩, fun _ => rfl⟩
  | x :: r, pre, h => by
    rw [List.length_cons]
    unfold colF
    have e1 : (pre ++ x :: r).getD pre.length ⟨#[]⟩ = x := by simp
    have e2 : (pre ++ x :: r).take pre.length = pre := List.take_left
    rw [e1, e2, Bool.and_eq_true, Bool.and_eq_true, decide_eq_true_eq, posS_neg, List.all_cons, Bool.and_eq_true]
    by_cases hm : x ∈ pre
    · constructor
      · intro g
        exact absurd hm g.1.2
      · intro g
        exact absurd rfl ((List.nodup_append.1 g.2).2.2 x hm x (by simp))
    · have hp : (pre ++ [x]).Nodup := List.nodup_append.2 ⟨h, by simp, fun a ha b hb => by rw [List.mem_singleton.1 hb]; exact fun e => hm (e ▸ ha)⟩
      have ih := colF_iff r (pre ++ [x]) hp
      rw [List.append_assoc, List.singleton_append, List.length_append, List.length_singleton] at ih
      rw [ih]
      exact ⟨fun g => ⟨⟨g.1.1, g.2.1⟩, g.2.2⟩, fun g => ⟨⟨g.1.1, hm⟩, g.1.2, g.2⟩⟩
theorem colF_eq (cols : List ByteArray) : colF cols cols.length 0 = (nodupX cols && cols.all nameB) := by
  have h := colF_iff cols [] List.nodup_nil
  rw [List.nil_append, List.length_nil] at h
  have hd : nodupX cols = true ↔ cols.Nodup := @decide_eq_true_iff cols.Nodup (Classical.propDecidable _)
  rw [Bool.eq_iff_iff, h, Bool.and_eq_true, hd]
  exact ⟨fun g => ⟨g.2, g.1⟩, fun g => ⟨g.2, g.1⟩⟩
theorem STb4_loop (s g : ByteArray) (xs : List ByteArray) (q : PV) (hx : shL xs) : ∀ (m i : Nat), m + i = xs.length → LoopsTo (rdB brC Tryz.prog pdb0 lp_STb LO_STb Tryz.f54 4 []) [aBx 1 [.pv (.str s), .pv (.str g), .pv (pL xs), .pv q], aI i]
    (if colF xs m i = true then (.exit 0, [aBx 1 [.pv (.str s), .pv (.str g), .pv (pL xs), .pv q], aX]) else (.ret, [aBx 1 [.pv (.str s), .pv (.str g), .pv (pL xs), .pv q], aB false])) := by
  have hl := hx.1
  intro m
  induction m with
  | zero =>
    intro i hm
    obtain rfl : i = xs.length := by omega
    refine .done _ _ ((r_STb4_eq s g xs q xs.length).trans ?_)
    rw [dF (by omega)]
    rfl
  | succ m ih =>
    intro i hm
    have hi : i < xs.length := by omega
    have ih' := ih (i + 1) (by omega)
    have tree := r_STb4_eq s g xs q i
    have z1 : PV.sl (Int.toNat (i : Int) - 0) (List.take ((Int.toNat (i : Int) - 0) * 1) (List.drop (0 * 1) (List.map PV.str xs))) = PV.sl (xs.take i).length ((xs.take i).map .str) := by
      rw [Int.toNat_natCast, Nat.sub_zero, Nat.mul_one, Nat.zero_mul, List.drop_zero, List.length_take, Nat.min_eq_left (by omega), List.map_take]
    have z2 : isL (PV.sl (xs.take i).length ((xs.take i).map .str)) = true := isL_mk ⟨by rw [List.length_take]; omega, fun u hu => hx.2 u (List.mem_of_mem_take hu)⟩
    have z3 : asL (PV.sl (xs.take i).length ((xs.take i).map .str)) = xs.take i := asL_mk _
    have hsz := hx.2 xs[i] (List.getElem_mem hi)
    rw [z1, z2, z3] at tree
    simp (disch := omega) only [dT, Int.toNat_natCast, drop_strs xs i hi, List.length_cons, List.headD_cons, PV.isStr, PV.asStr, blt0, wrap1, Bool.and_true, Bool.true_and] at tree
    unfold colF
    have e1 : xs.getD i ⟨#[]⟩ = xs[i] := by simp [hi]
    rw [e1]
    cases hn : nameB xs[i] with
    | false =>
      rw [hn] at tree
      rw [Bool.false_and, Bool.false_and, if_neg Bool.false_ne_true]
      exact .done _ _ tree
    | true =>
      rw [hn] at tree
      rw [Bool.true_and]
      by_cases hp : posS (xs.take i) xs[i] < 0
      · rw [dF (show ¬ posS (xs.take i) xs[i] ≥ 0 by omega)] at tree
        rw [dT hp, Bool.true_and]
        exact .step _ _ _ tree ih'
      · rw [dT (show posS (xs.take i) xs[i] ≥ 0 by omega)] at tree
        rw [dF hp, Bool.false_and, if_neg Bool.false_ne_true]
        exact .done _ _ tree
theorem STb10_loop (s g : ByteArray) (xs zs : List ByteArray) (hx : shL xs) (hz : shL zs) : ∀ (m i : Nat) (a : Int), m + i = zs.length → LoopsTo (rdB brC Tryz.prog pdb0 lp_STb LO_STb Tryz.f54 10 []) [aBx 1 [.pv (.str s), .pv (.str g), .pv (pL xs), .pv (pL zs)], aI a, aI i]
    (if idxB xs (zs.drop i) a = true then (.exit 2, [aX]) else (.ret, [aB false])) := by
  have hl := hz.1
  intro m
  induction m with
  | zero =>
    intro i a hm
    obtain rfl : i = zs.length := by omega
    rw [List.drop_length]
    refine .done _ _ ((r_STb10_eq s g xs zs a zs.length).trans ?_)
    rw [dF (by omega)]
    rfl
  | succ m ih =>
    intro i a hm
    have hi : i < zs.length := by omega
    have ih' := ih (i + 1) (posS xs zs[i]) (by omega)
    have tree := r_STb10_eq s g xs zs a i
    have e1 : isL (PV.sl xs.length (xs.map .str)) = true := isL_mk hx
    have e2 : asL (PV.sl xs.length (xs.map .str)) = xs := asL_mk xs
    simp (disch := omega) only [show decide ((i : Int) < (zs.length : Int)) = true from dT (by omega), show decide (0 ≤ (i : Int)) = true from dT (by omega), Int.toNat_natCast, drop_strs zs i hi, List.length_cons, List.headD_cons, PV.isStr, PV.asStr, blt0, wrap1, Bool.and_true, Bool.true_and, e1, e2] at tree
    rw [List.drop_eq_getElem_cons hi]
    show LoopsTo _ _ (if (decide (a < posS xs zs[i]) && idxB xs (zs.drop (i + 1)) (posS xs zs[i])) = true then _ else _)
    by_cases hp : posS xs zs[i] ≤ a
    · rw [dT hp] at tree
      rw [dF (show ¬ a < posS xs zs[i] by omega), Bool.false_and, if_neg Bool.false_ne_true]
      exact .done _ _ tree
    · rw [dF hp] at tree
      rw [dT (show a < posS xs zs[i] by omega), Bool.true_and]
      exact .step _ _ _ tree ih'
theorem ok_STb : EntryOk Tryz.prog 54 E_STb := entry_of mix ok_pdb0 (lp := lp_STb) (LO := LO_STb) ⟨Tryz.func54, by kernel_rfl, by kernel_rfl⟩ (by kernel_rfl) fun ivs res bxs h => by
  unfold E_STb at h
  split at h
  · rename_i p
    obtain ⟨hc, he⟩ := pick1 h
    cases he
    obtain ⟨b, rfl, hb⟩ := isTb_inv hc
    obtain ⟨b1, b2, b3, b4⟩ := hb
    have e4 : asTb (pTb b) = b := asTb_mk b
    rw [e4]
    refine ⟨manyLoops [4, 10] (by kernel_rfl) (fun k hk => ?_) (fun k hk => ?_), (q_STb_eq b).trans ?_⟩
    · rcases List.mem_cons.1 hk with rfl | hk
      · kernel_rfl
      · rw [List.mem_singleton.1 hk]; kernel_rfl
    · rcases List.mem_cons.1 hk with rfl | hk
      · refine ⟨noLoop (by kernel_rfl), fun ls e ls' hl => ?_⟩
        unfold LO_STb at hl
        rw [Nat.beq_refl, cond_true] at hl
        split at hl
        · rename_i x s g p q i
          cases hg : (isL p && (i == 0) && Nat.beq x 4096) with
          | false => rw [hg] at hl; simp only [pickA, Bool.false_and, cond_false] at hl; cases hl
          | true =>
            rw [hg, Bool.true_and] at hl
            simp only [Bool.and_eq_true, beq_iff_eq] at hg
            obtain ⟨⟨g1, g2⟩, g3⟩ := hg
            obtain ⟨xs, rfl, hx⟩ := isL_inv g1
            have e1 : asL (pL xs) = xs := asL_mk xs
            rw [e1] at hl
            have := STb4_loop s g xs q hx xs.length 0 (by omega)
            rw [g2, Nat.eq_of_beq_eq_true g3]
            cases hB : colF xs xs.length 0 with
            | true => rw [hB] at hl this; cases hl; exact this
            | false => rw [hB] at hl this; cases hl; exact this
        · cases hl
      · rw [List.mem_singleton.1 hk]
        refine ⟨noLoop (by kernel_rfl), fun ls e ls' hl => ?_⟩
        unfold LO_STb at hl
        rw [show Nat.beq 10 4 = false from rfl, cond_false] at hl
        split at hl
        · rename_i x s g p q a i
          cases hg : (isL p && isL q && (a == 0) && (i == 0) && Nat.beq x 4096) with
          | false => rw [hg] at hl; simp only [pickA, Bool.false_and, cond_false] at hl; cases hl
          | true =>
            rw [hg, Bool.true_and] at hl
            simp only [Bool.and_eq_true, beq_iff_eq] at hg
            obtain ⟨⟨⟨⟨g1, g2⟩, g4⟩, g5⟩, g6⟩ := hg
            obtain ⟨xs, rfl, hx⟩ := isL_inv g1
            obtain ⟨zs, rfl, hz⟩ := isL_inv g2
            have e1 : asL (pL xs) = xs := asL_mk xs
            have e2 : asL (pL zs) = zs := asL_mk zs
            rw [e1, e2] at hl
            have := STb10_loop s g xs zs hx hz zs.length 0 0 (by omega)
            rw [List.drop_zero] at this
            rw [g4, g5, Nat.eq_of_beq_eq_true g6]
            cases hB : idxB xs zs 0 with
            | true => rw [hB] at hl this; cases hl; exact this
            | false => rw [hB] at hl this; cases hl; exact this
        · cases hl
    · have e3 : isL (pL b.idxs) = true := isL_mk b4
      have e5 : asL (pL b.idxs) = b.idxs := asL_mk b.idxs
      have e6 : isL (pL b.cols) = true := isL_mk b3
      have e7 : asL (pL b.cols) = b.cols := asL_mk b.cols
      simp only [e3, e5, e6, e7, dT b1, dT b2, colF_eq, beq_self_eq_true, Bool.and_true, Bool.true_and, Nat.beq_refl]
      have l1 : decide ((b.cols.length : Int) < 1) = !decide (1 ≤ b.cols.length) := by
        by_cases h : 1 ≤ b.cols.length
        · rw [dT h, dF (by omega)]; rfl
        · rw [dF h, dT (by omega)]; rfl
      have l2 : decide ((b.cols.length : Int) > 5) = !decide (b.cols.length ≤ 5) := by
        by_cases h : b.cols.length ≤ 5
        · rw [dT h, dF (by omega)]; rfl
        · rw [dF h, dT (by omega)]; rfl
      rw [l1, l2]
      unfold tblB
      by_cases h1 : 1 ≤ b.cols.length
      · rw [dT h1]
        by_cases h2 : (b.idxs.length : Int) ≥ (b.cols.length : Int)
        · have h3 : idxB b.cols b.idxs 0 = false := by
            cases hB : idxB b.cols b.idxs 0 with
            | false => rfl
            | true =>
              have := idxB_len b.cols b.idxs 0 hB (by omega)
              omega
          rw [dT h2, h3]
          cases nameB b.name <;> cases nameB b.glob <;> cases decide (b.cols.length ≤ 5) <;> cases nodupX b.cols <;> cases b.cols.all nameB <;> rfl
        · rw [dF h2]
          cases nameB b.name <;> cases nameB b.glob <;> cases decide (b.cols.length ≤ 5) <;> cases nodupX b.cols <;> cases b.cols.all nameB <;> cases idxB b.cols b.idxs 0 <;> rfl
      · rw [dF h1]
        cases nameB b.name <;> cases nameB b.glob <;> rfl
  · cases h
theorem ok_l29Cell : EntryOk Tryz.prog 107 E_icell := ⟨⟨_, Tryz.func107, by kernel_rfl, by kernel_rfl⟩, fun ivs res bxs h => by
  unfold E_icell at h
  split at h
  · rename_i s
    obtain ⟨hc, he⟩ := pick1 h
    cases he
    have hc := of_decide_eq_true hc
    refine contract_flatG (ps := [.str s]) (v := .bool (cellB s)) rfl fun w com vals hv _ hgl => ?_
    obtain ⟨v, vs, rfl, hv1, hn⟩ := hv.of_cons
    rw [hn.of_nil]
    cases hv1
    refine (l29Cell_any s w (by omega)).mono ?_
    rintro e w' ⟨rfl, rfl⟩
    exact ⟨rfl, Below.refl _ _⟩
  · cases h⟩
theorem ok_pdb1 : EntriesOk Tryz.prog pdb1 := ⟨ok_STb, ok_l29Cell, trivial⟩
theorem SRow_loop (cs : List ByteArray) (hs : shL cs) : ∀ (m i : Nat), m + i = cs.length → LoopsTo (rdB brC Tryz.prog pdb1 lp_SRow LO_SRow Tryz.f55 4 []) [aBx 3 [.pv (pL cs)], aI i]
    (if (cs.drop i).all cellB = true then (.exit 0, [aX]) else (.ret, [aB false])) := by
  have hl := hs.1
  intro m
  induction m with
  | zero =>
    intro i hm
    obtain rfl : i = cs.length := by omega
    rw [List.drop_length]
    refine .done _ _ ((r_SRow_eq cs cs.length).trans ?_)
    rw [dF (by omega)]
    rfl
  | succ m ih =>
    intro i hm
    have hi : i < cs.length := by omega
    have ih' := ih (i + 1) (by omega)
    have tree := r_SRow_eq cs i
    have hsz := hs.2 cs[i] (List.getElem_mem hi)
    simp (disch := omega) only [dT, Int.toNat_natCast, drop_strs cs i hi, List.length_cons, List.headD_cons, PV.isStr, PV.asStr, blt0, wrap1, Bool.and_true, Bool.true_and] at tree
    rw [List.drop_eq_getElem_cons hi, List.all_cons]
    cases hc : cellB cs[i] with
    | false =>
      rw [hc] at tree
      rw [Bool.false_and, if_neg Bool.false_ne_true]
      exact .done _ _ tree
    | true =>
      rw [hc] at tree
      rw [Bool.true_and]
      exact .step _ _ _ tree ih'
theorem ok_SRow : EntryOk Tryz.prog 55 E_irow := entry_of mix ok_pdb1 (lp := lp_SRow) (LO := LO_SRow) ⟨Tryz.func55, by kernel_rfl, by kernel_rfl⟩ (by kernel_rfl) fun ivs res bxs h => by
  unfold E_irow at h
  split at h
  · rename_i p q
    obtain ⟨hc, he⟩ := pick1 h
    cases he
    simp only [Bool.and_eq_true, decide_eq_true_eq] at hc
    obtain ⟨⟨h1, h2⟩, h3⟩ := hc
    obtain ⟨b, rfl, hb⟩ := isTb_inv h1
    obtain ⟨cs, rfl, hs⟩ := isRw_inv h2
    have e4 : asTb (pTb b) = b := asTb_mk b
    have e5 : asRw (pRw cs) = cs := asRw_mk cs
    rw [e4] at h3 ⊢
    rw [e5]
    refine ⟨oneLoop 4 (by kernel_rfl) (by kernel_rfl) (by kernel_rfl) ?_, (q_SRow_eq b cs).trans ?_⟩
    · intro ls e ls' hl
      unfold LO_SRow at hl
      split at hl
      · rename_i x p i
        cases hg : (isL p && (i == 0) && Nat.beq x 12288) with
        | false => rw [hg] at hl; simp only [pickA, Bool.false_and, cond_false] at hl; cases hl
        | true =>
          rw [hg, Bool.true_and] at hl
          simp only [Bool.and_eq_true, beq_iff_eq] at hg
          obtain ⟨⟨g1, g2⟩, g3⟩ := hg
          obtain ⟨ys, rfl, hy⟩ := isL_inv g1
          have e1 : asL (pL ys) = ys := asL_mk ys
          rw [e1] at hl
          have := SRow_loop ys hy ys.length 0 (by omega)
          rw [List.drop_zero] at this
          rw [g2, Nat.eq_of_beq_eq_true g3]
          cases hB : ys.all cellB with
          | true => rw [hB] at hl this; cases hl; exact this
          | false => rw [hB] at hl this; cases hl; exact this
      · cases hl
    · have f1 : isL (pL cs) = true := isL_mk hs
      have f2 : asL (pL cs) = cs := asL_mk cs
      have hlb : ((cs.length : Int) != (b.cols.length : Int)) = !decide (cs.length = b.cols.length) := by
        by_cases h : cs.length = b.cols.length
        · rw [h, dT rfl]; simp
        · rw [dF h]; simp; omega
      rw [hlb, f1, f2]
      unfold rowB
      by_cases hlen : cs.length = b.cols.length
      · cases cs with
        | nil => rw [List.length_nil] at hlen; omega
        | cons c cs =>
          rw [dT hlen, dT (show (0 : Int) < ((c :: cs).length : Int) by rw [List.length_cons]; omega)]
          show brC (!true) _ (brC (true && true) (brC (true && true && true) (brC (c.toList == ([] : List UInt8)) _ _) none) none) = some (cB (true && !c.data.toList.isEmpty && _), [])
          rw [toList_nil2]
          cases c.data.toList.isEmpty with
          | true => rfl
          | false =>
            cases (c :: cs).all cellB <;> rfl
      · rw [dF hlen]
        rfl
  · cases h
theorem ok_pdb2 : EntriesOk Tryz.prog pdb2 := ⟨ok_SRow, ok_pdb1⟩
theorem ok_SRowOk : EntryOk Tryz.prog 13 E_iRowOk := entry_of mix ok_pdb2 (lp := []) (LO := LO0) ⟨Tryz.func13, by kernel_rfl, by kernel_rfl⟩ (by kernel_rfl) fun ivs res bxs h => by
  unfold E_iRowOk at h
  split at h
  · rename_i p q
    obtain ⟨hc, he⟩ := pick1 h
    cases he
    rw [Bool.and_eq_true] at hc
    obtain ⟨b, rfl, hb⟩ := isTb_inv hc.1
    obtain ⟨cs, rfl, hs⟩ := isRw_inv hc.2
    have e4 : asTb (pTb b) = b := asTb_mk b
    have e5 : asRw (pRw cs) = cs := asRw_mk cs
    rw [e4, e5]
    refine ⟨noLoop (by kernel_rfl), (q_SRowOk_eq b cs).trans ?_⟩
    simp only [isTb, isRw, isTb_mk hb, isRw_mk hs, asTb_mk, asRw_mk]
    cases hB : tblB b with
    | false => rfl
    | true =>
      rw [dT (tblB_cols hB).1]
      rfl
  · cases h
/-! Cutting. -/
def cutP (acc r : List UInt8) : List ByteArray := (cutR acc r).map bs
theorem cutP_cut (s : ByteArray) : cutP [] s.data.toList = cutV s := by
  unfold cutP
  rw [cutR_cut, List.map_map]
  have : (bs ∘ fun x : ByteArray => x.data.toList) = id := by
    funext x
    exact bs_self x
  rw [this, List.map_id]
theorem SCut_loop (s : ByteArray) (hs : s.size ≤ 50000) : ∀ (m i f cn : Nat) (cl : List PV), m + i = s.size → f ≤ i → cn ≤ i → LoopsTo (rdB brC Tryz.prog [] lp_SCut LO_SCut Tryz.f114 4 []) [aS s, aL 3 1 9 cn cl, aI f, aI i]
    (.exit 0, [aL 3 1 9 (cn + (cutP ((s.data.toList.drop f).take (i - f)) (s.data.toList.drop i)).length) (cl ++ (cutP ((s.data.toList.drop f).take (i - f)) (s.data.toList.drop i)).map .str)]) := by
  have hsl : s.data.toList.length = s.size := (size_len s).symm
  intro m
  induction m with
  | zero =>
    intro i f cn cl hm hf hc
    obtain rfl : i = s.size := by omega
    have tree := r_SCut_eq s cn cl f s.size
    have tree2 := r_SCut_eq s (cn + 1) (cl ++ [PV.str (s.extract f s.size)]) ((s.size + 1 : Nat) : Int) ((s.size + 1 : Nat) : Int)
    rw [beq_self_eq_true] at tree
    simp (disch := omega) only [dT, Int.toNat_natCast, wrap1, Bool.and_true, Bool.true_and] at tree
    rw [dF (show ¬ ((s.size + 1 : Nat) : Int) ≤ (s.size : Int) by omega)] at tree2
    have e : cutP ((s.data.toList.drop f).take (s.size - f)) (s.data.toList.drop s.size) = [s.extract f s.size] := by
      rw [List.drop_of_length_le (i := s.size) (by omega)]
      unfold cutP cutR
      rw [extract_bs]
      rfl
    rw [e]
    exact .step _ _ _ tree (.done _ _ tree2)
  | succ m ih =>
    intro i f cn cl hm hf hc
    have hi : i < s.size := by omega
    have hi' : i < s.data.toList.length := by omega
    have tree := r_SCut_eq s cn cl f i
    have hne : ((i : Int) == (s.size : Int)) = false := by
      rw [beq_eq_false_iff_ne]
      omega
    rw [hne] at tree
    have hg : s.data.toList.getD i 0 = s.data.toList[i] := by rw [List.getD_eq_getElem?_getD, List.getElem?_eq_getElem hi', Option.getD_some]
    simp (disch := omega) only [dT, Int.toNat_natCast, wrap1, Bool.and_true, Bool.true_and, hg] at tree
    rw [List.drop_eq_getElem_cons hi']
    have hq : (((s.data.toList[i].toNat : Nat) : Int) == 94) = decide (s.data.toList[i] = 94) := by
      rw [Bool.eq_iff_iff, beq_iff_eq, decide_eq_true_eq]
      constructor
      · intro h
        have h2 : s.data.toList[i].toNat = 94 := by omega
        exact UInt8.toNat.inj (h2.trans rfl)
      · intro h
        rw [h]
        rfl
    rw [hq] at tree
    by_cases h94 : s.data.toList[i] = 94
    · rw [dT h94] at tree
      have ih' := ih (i + 1) (i + 1) (cn + 1) (cl ++ [PV.str (s.extract f i)]) (by omega) (Nat.le_refl _) (by omega)
      have e : cutP ((s.data.toList.drop f).take (i - f)) (s.data.toList[i] :: s.data.toList.drop (i + 1)) = s.extract f i :: cutP ((s.data.toList.drop (i + 1)).take (i + 1 - (i + 1))) (s.data.toList.drop (i + 1)) := by
        unfold cutP
        rw [cutR, if_pos h94, List.map_cons, ← extract_bs, Nat.sub_self, List.take_zero]
      rw [e, List.length_cons, List.map_cons]
      rw [List.append_assoc, List.singleton_append, Nat.add_assoc, Nat.add_comm 1] at ih'
      exact .step _ _ _ tree ih'
    · rw [dF h94] at tree
      have ih' := ih (i + 1) f cn cl (by omega) (by omega) (by omega)
      have e : cutP ((s.data.toList.drop f).take (i - f)) (s.data.toList[i] :: s.data.toList.drop (i + 1)) = cutP ((s.data.toList.drop f).take (i + 1 - f)) (s.data.toList.drop (i + 1)) := by
        unfold cutP
        rw [cutR, if_neg h94]
        congr 2
        rw [show i + 1 - f = (i - f) + 1 by omega, List.take_add_one, List.getElem?_drop, show f + (i - f) = i by omega, List.getElem?_eq_getElem hi']
        rfl
      rw [e]
      exact .step _ _ _ tree ih'
theorem ok_SCut : EntryOk Tryz.prog 114 E_SCut := entry_of mix (tab := []) trivial (lp := lp_SCut) (LO := LO_SCut) ⟨Tryz.func114, by kernel_rfl, by kernel_rfl⟩ (by kernel_rfl) fun ivs res bxs h => by
  unfold E_SCut at h
  split at h
  · rename_i s
    obtain ⟨hc, he⟩ := pick1 h
    cases he
    refine ⟨oneLoop 4 (by kernel_rfl) (by kernel_rfl) (by kernel_rfl) ?_, (q_SCut_eq s).trans ?_⟩
    · intro ls e ls' hl
      unfold LO_SCut at hl
      split at hl
      · rename_i s x e cn cl f i
        obtain ⟨hc, he⟩ := pick1 hl
        cases he
        simp only [Bool.and_eq_true, decide_eq_true_eq, beq_iff_eq] at hc
        obtain ⟨⟨⟨⟨⟨⟨h1, h2⟩, h3⟩, h4⟩, h5⟩, h6⟩, h7⟩ := hc
        have := SCut_loop s h1 s.size 0 0 0 [] (by omega) (Nat.le_refl _) (Nat.le_refl _)
        rw [List.drop_zero, Nat.sub_zero, List.take_zero, cutP_cut, Nat.zero_add, List.nil_append] at this
        rw [Nat.eq_of_beq_eq_true h2, Nat.eq_of_beq_eq_true h3, Nat.eq_of_beq_eq_true h4, nilB_inv h5, h6, h7]
        exact this
      · cases hl
    · rw [hc, nilB_mk]
      rfl
  · cases h
theorem ok_pdb3 : EntriesOk Tryz.prog pdb3 := ⟨ok_SCut, ok_pdb2⟩
theorem ok_SUnp : EntryOk Tryz.prog 61 E_unpacked := entry_of mix ok_pdb3 (lp := [(1000000, [], [17])]) (LO := LO0) ⟨Tryz.func61, by kernel_rfl, by kernel_rfl⟩ (by kernel_rfl) fun ivs res bxs h => by
  unfold E_unpacked at h
  split at h
  · rename_i p k v
    have key : ∀ b, shTb b → k.size ≤ 50000 → v.size ≤ 50000 → tblB b = true → q_SUnp brC b k v = if unpB b k v = true then some (.tup [.agg [.pv (pL (cellsW b k v))], cI 0], []) else some (.tup [.agg [.pv .nils], cI 14], []) := fun b hb hk hv hB => by
      have tree := q_SUnp_eq b k v
      obtain ⟨c1, c5⟩ := tblB_cols hB
      have hsh := cut_sh hv
      have fin : ∀ cs : List ByteArray, cellsW b k v = cs → shL cs → (decide (1 < b.cols.length) || v.data.toList.isEmpty) = true → ∀ X : Option (IV × List (List CV)), X = brC (isTb (PV.agg [PV.str b.name, PV.str b.glob, PV.sl b.cols.length (b.cols.map PV.str), PV.sl b.idxs.length (b.idxs.map PV.str)]) && isRw (PV.agg [PV.sl cs.length (cs.map .str)]) && decide (1 ≤ (asTb (PV.agg [PV.str b.name, PV.str b.glob, PV.sl b.cols.length (b.cols.map PV.str), PV.sl b.idxs.length (b.idxs.map PV.str)])).cols.length))
          (brC (!rowB (asTb (PV.agg [PV.str b.name, PV.str b.glob, PV.sl b.cols.length (b.cols.map PV.str), PV.sl b.idxs.length (b.idxs.map PV.str)])) (asRw (PV.agg [PV.sl cs.length (cs.map .str)])))
            (some (.tup [.agg [.pv .nils], cI 14], []))
            (some (.tup [.agg [.pv (pL cs)], cI 0], [])))
          none → X = if unpB b k v = true then some (.tup [.agg [.pv (pL (cellsW b k v))], cI 0], []) else some (.tup [.agg [.pv .nils], cI 14], []) := fun cs hcs hsc hcv X hX => by
        rw [hX]
        have f1 : isTb (PV.agg [PV.str b.name, PV.str b.glob, PV.sl b.cols.length (b.cols.map PV.str), PV.sl b.idxs.length (b.idxs.map PV.str)]) = true := isTb_mk hb
        have f2 : isRw (PV.agg [PV.sl cs.length (cs.map .str)]) = true := isRw_mk hsc
        have f3 : asTb (PV.agg [PV.str b.name, PV.str b.glob, PV.sl b.cols.length (b.cols.map PV.str), PV.sl b.idxs.length (b.idxs.map PV.str)]) = b := asTb_mk b
        have f4 : asRw (PV.agg [PV.sl cs.length (cs.map .str)]) = cs := asRw_mk cs
        rw [f1, f2, f3, f4, dT c1]
        unfold unpB
        rw [hcs, hcv]
        cases hR : rowB b cs with
        | false => rfl
        | true => rfl
      by_cases h1 : 1 < b.cols.length
      · have hcs : cellsW b k v = k :: cutV v := by rw [cellsW_eq, if_pos h1]
        have hsc : shL (k :: cutV v) := ⟨by
          have h4 := (join_len (datas (cutV v))).1
          rw [(cut_facts v).1, List.length_map] at h4
          have hq : v.data.toList.length = v.size := by rw [Array.length_toList]; rfl
          rw [List.length_cons]
          omega, fun u hu => by
          rcases List.mem_cons.1 hu with rfl | hu
          · omega
          · exact hsh.2 u hu⟩
        have hl := hsh.1
        have b1 : Nat.beq ((cutV v).map PV.str).length ((cutV v).length * 1) = true := by rw [List.length_map, Nat.mul_one]; exact Nat.beq_refl _
        have n1 : ((b.cols.length : Int) == 1) = false := by
          rw [beq_eq_false_iff_ne]
          omega
        rw [dT (show (b.cols.length : Int) > 1 by omega), dT hv, b1, n1, dT (show 1 + (cutV v).length ≤ 140737488351232 by omega), dT (show (1 + (cutV v).length) * 16 ≤ 140737488355328 by omega), Nat.add_comm 1] at tree
        exact fin _ hcs hsc (by rw [dT h1, Bool.true_or]) _ (tree.trans rfl)
      · have hcs : cellsW b k v = [k] := by rw [cellsW_eq, if_neg h1]
        have hsc : shL [k] := ⟨by simp, fun u hu => by rw [List.mem_singleton.1 hu]; omega⟩
        have n1 : ((b.cols.length : Int) == 1) = true := by
          rw [beq_iff_eq]
          omega
        rw [dF (show ¬ (b.cols.length : Int) > 1 by omega), n1, toList_nil2] at tree
        cases hv0 : v.data.toList.isEmpty with
        | true =>
          rw [hv0] at tree
          exact fin _ hcs hsc (by rw [hv0, Bool.or_true]) _ (tree.trans rfl)
        | false =>
          rw [hv0] at tree
          have hu : unpB b k v = false := by
            unfold unpB
            rw [dF h1, hv0, Bool.or_false, Bool.and_false]
          rw [hu]
          exact tree.trans rfl
    refine ⟨noLoop (by kernel_rfl), ?_⟩
    rcases pick2 h with ⟨hc, he⟩ | ⟨hc1, hc, he⟩
    · cases he
      simp only [Bool.and_eq_true, decide_eq_true_eq] at hc
      obtain ⟨⟨⟨⟨h1, h2⟩, h3⟩, h4⟩, h5⟩ := hc
      obtain ⟨b, rfl, hb⟩ := isTb_inv h1
      have e4 : asTb (pTb b) = b := asTb_mk b
      rw [e4] at h4 h5 ⊢
      exact (key b hb h2 h3 h4).trans (by rw [if_pos h5])
    · cases he
      simp only [Bool.and_eq_true, decide_eq_true_eq] at hc
      obtain ⟨⟨⟨h1, h2⟩, h3⟩, h4⟩ := hc
      obtain ⟨b, rfl, hb⟩ := isTb_inv h1
      have e4 : asTb (pTb b) = b := asTb_mk b
      rw [h1, dT h2, dT h3, e4] at hc1
      rw [e4] at h4
      rw [h4] at hc1
      exact (key b hb h2 h3 h4).trans (by rw [if_neg (by rw [show unpB b k v = false from hc1]; exact Bool.false_ne_true)])
  · cases h
theorem ok_pdb4 : EntriesOk Tryz.prog pdb4 := ⟨ok_SUnp, ok_pdb3⟩
theorem ok_SUnpRow : EntryOk Tryz.prog 16 E_Unpack := entry_of mix ok_pdb4 (lp := []) (LO := LO0) ⟨Tryz.func16, by kernel_rfl, by kernel_rfl⟩ (by kernel_rfl) fun ivs res bxs h => by
  unfold E_Unpack at h
  split at h
  · rename_i p k v
    refine ⟨noLoop (by kernel_rfl), ?_⟩
    have f1 : ∀ b, shTb b → isTb (PV.agg [PV.str b.name, PV.str b.glob, PV.sl b.cols.length (b.cols.map PV.str), PV.sl b.idxs.length (b.idxs.map PV.str)]) = true := fun b hb => isTb_mk hb
    have f3 : ∀ b : TblT, asTb (PV.agg [PV.str b.name, PV.str b.glob, PV.sl b.cols.length (b.cols.map PV.str), PV.sl b.idxs.length (b.idxs.map PV.str)]) = b := fun b => asTb_mk b
    rcases pick3 h with ⟨hc, he⟩ | ⟨hc0, hc, he⟩ | ⟨hc0, hc1, hc, he⟩
    · cases he
      simp only [Bool.and_eq_true, decide_eq_true_eq] at hc
      obtain ⟨⟨⟨⟨h1, h2⟩, h3⟩, h4⟩, h5⟩ := hc
      obtain ⟨b, rfl, hb⟩ := isTb_inv h1
      have e4 : asTb (pTb b) = b := asTb_mk b
      rw [e4] at h4 h5 ⊢
      have tree := q_SUnpRow_eq b k v
      rw [f1 b hb, f3, h4, h5, dT h2, dT h3] at tree
      exact tree.trans rfl
    · cases he
      simp only [Bool.and_eq_true, decide_eq_true_eq] at hc
      obtain ⟨⟨⟨h1, h2⟩, h3⟩, h4⟩ := hc
      obtain ⟨b, rfl, hb⟩ := isTb_inv h1
      have e4 : asTb (pTb b) = b := asTb_mk b
      rw [h1, dT h2, dT h3, e4] at hc0
      rw [e4] at h4
      rw [h4] at hc0
      have h5 : unpB b k v = false := hc0
      have tree := q_SUnpRow_eq b k v
      rw [f1 b hb, f3, h4, h5, dT h2, dT h3] at tree
      exact tree.trans rfl
    · cases he
      simp only [Bool.and_eq_true, decide_eq_true_eq] at hc
      obtain ⟨⟨h1, h2⟩, h3⟩ := hc
      obtain ⟨b, rfl, hb⟩ := isTb_inv h1
      have e4 : asTb (pTb b) = b := asTb_mk b
      rw [h1, dT h2, dT h3, e4] at hc1
      have h4 : tblB b = false := hc1
      have tree := q_SUnpRow_eq b k v
      rw [f1 b hb, f3, h4] at tree
      exact tree.trans rfl
  · cases h
/-! The same rows. -/
theorem Sta_loop (xs ys : List ByteArray) (h : shL xs) (k : shL ys) (hlen : xs.length = ys.length) : LoopsTo (rdB brC Tryz.prog [] lp_Sta LO_Sta Tryz.f115 4 []) [aP (pL xs), aP (pL ys), aI 0]
    (if sameX xs ys = true then (.exit 0, [aX]) else (.ret, [aB false])) := by
  have := rangeLoop0 (f := rdB brC Tryz.prog [] lp_Sta LO_Sta Tryz.f115 4 []) (xs.zip ys) (fun i (_ : Unit) => [aP (pL xs), aP (pL ys), aI i])
    (fun z _ => if sEq z.1 z.2 = true then .inl () else .inr (.ret, [aB false])) (fun _ => (.exit 0, [aX])) (fun _ _ => True) ?_ ?_ (b := ()) trivial
  · rw [same_fold _ _ hlen] at this
    exact this
  · intro i hi _ _
    have hl := h.1
    rw [List.length_zip] at hi
    have hix : i < xs.length := by omega
    have hiy : i < ys.length := by omega
    have tree := r_Sta_eq xs ys i
    simp (disch := omega) only [dT, Int.toNat_natCast, drop_strs xs i hix, drop_strs ys i hiy, List.length_cons, List.headD_cons, PV.isStr, PV.asStr, blt0, wrap1, Bool.and_true] at tree
    rw [List.getElem_zip]
    cases hb : sEq xs[i] ys[i] with
    | true =>
      have hb' : (ByteArray.toList xs[i] == ByteArray.toList ys[i]) = true := hb
      rw [hb'] at tree
      exact .inl ⟨(), rfl, trivial, tree⟩
    | false =>
      have hb' : (ByteArray.toList xs[i] == ByteArray.toList ys[i]) = false := hb
      rw [hb'] at tree
      exact .inr ⟨_, rfl, tree⟩
  · intro _ _
    refine (r_Sta_eq xs ys (xs.zip ys).length).trans ?_
    rw [List.length_zip, ← hlen, Nat.min_self, dF (by omega)]
    rfl
theorem ok_Sta : EntryOk Tryz.prog 115 E_Sta := entry_of mix (tab := []) trivial (lp := lp_Sta) (LO := LO_Sta) ⟨Tryz.func115, by kernel_rfl, by kernel_rfl⟩ (by kernel_rfl) fun ivs res bxs h => by
  unfold E_Sta at h
  split at h
  · rename_i p q
    obtain ⟨hc, he⟩ := pick1 h
    cases he
    rw [Bool.and_eq_true, Bool.and_eq_true] at hc
    obtain ⟨⟨h1, h2⟩, h3⟩ := hc
    obtain ⟨xs, rfl, hx⟩ := isL_inv h1
    obtain ⟨ys, rfl, hy⟩ := isL_inv h2
    have e1 : asL (pL xs) = xs := asL_mk xs
    have e2 : asL (pL ys) = ys := asL_mk ys
    rw [e1, e2] at h3 ⊢
    have hlen : xs.length = ys.length := Nat.eq_of_beq_eq_true h3
    refine ⟨oneLoop 4 (by kernel_rfl) (by kernel_rfl) (by kernel_rfl) ?_, (q_Sta_eq xs ys).trans ?_⟩
    · intro ls e ls' hl
      unfold LO_Sta at hl
      split at hl
      · rename_i p q i
        cases hg : (isL p && isL q && (i == 0)) with
        | false => rw [hg] at hl; simp only [pickA, Bool.false_and, cond_false] at hl; cases hl
        | true =>
          rw [hg, Bool.true_and] at hl
          simp only [Bool.and_eq_true, beq_iff_eq] at hg
          obtain ⟨us, rfl, hu⟩ := isL_inv hg.1.1
          obtain ⟨vs, rfl, hv⟩ := isL_inv hg.1.2
          obtain rfl := hg.2
          simp only [asL_mk] at hl
          cases hlen : Nat.beq us.length vs.length with
          | false => rw [hlen] at hl; simp only [pickA, Bool.false_and, cond_false] at hl; cases hl
          | true =>
            rw [hlen, Bool.true_and] at hl
            have := Sta_loop us vs hu hv (Nat.eq_of_beq_eq_true hlen)
            cases ha : sameX us vs <;> rw [ha] at hl this <;> cases hl <;> exact this
      · cases hl
    · have e3 : isL (pL xs) = true := isL_mk hx
      have e4 : isL (pL ys) = true := isL_mk hy
      rw [e1, e2, e3, e4, h3, dF (show ¬ (xs.length : Int) > (ys.length : Int) by omega)]
      cases sameX xs ys <;> rfl
  · cases h
theorem ok_pdb5 : EntriesOk Tryz.prog pdb5 := ⟨ok_Sta, trivial⟩
theorem ok_Txt : EntryOk Tryz.prog 62 E_l02Same := entry_of mix ok_pdb5 (lp := []) (LO := LO0) ⟨Tryz.func62, by kernel_rfl, by kernel_rfl⟩ (by kernel_rfl) fun ivs res bxs h => by
  unfold E_l02Same at h
  split at h
  · rename_i p q
    obtain ⟨hc, he⟩ := pick1 h
    cases he
    rw [Bool.and_eq_true] at hc
    obtain ⟨xs, rfl, hx⟩ := isL_inv hc.1
    obtain ⟨ys, rfl, hy⟩ := isL_inv hc.2
    refine ⟨noLoop (by kernel_rfl), (q_Txt_eq xs ys).trans ?_⟩
    simp only [isL_mk hx, isL_mk hy, asL_mk, Bool.and_true, Bool.true_and]
    by_cases hlen : xs.length = ys.length
    · have e1 : ((xs.length : Int) == (ys.length : Int)) = true := by rw [hlen, beq_self_eq_true]
      have e2 : Nat.beq xs.length ys.length = true := by rw [hlen]; exact Nat.beq_refl _
      rw [e1, e2]
      cases sameX xs ys <;> rfl
    · have e1 : ((xs.length : Int) == (ys.length : Int)) = false := by
        rw [beq_eq_false_iff_ne]
        omega
      have e3 : sameX xs ys = false := by
        cases hs : sameX xs ys with
        | false => rfl
        | true => exact absurd (by rw [holds_inv hs]) hlen
      rw [e1, e3]
      rfl
  · cases h
theorem ok_pdb6 : EntriesOk Tryz.prog pdb6 := ⟨ok_Txt, trivial⟩
theorem ok_SmR : EntryOk Tryz.prog 17 E_SmR := entry_of mix ok_pdb6 (lp := lp_Sta) (LO := LO_SmR) ⟨Tryz.func17, by kernel_rfl, by kernel_rfl⟩ (by kernel_rfl) fun ivs res bxs h => by
  unfold E_SmR at h
  split at h
  · rename_i p q
    obtain ⟨hc, he⟩ := pick1 h
    cases he
    rw [Bool.and_eq_true] at hc
    obtain ⟨xs, rfl, hx⟩ := isL_inv hc.1
    obtain ⟨ys, rfl, hy⟩ := isL_inv hc.2
    refine ⟨oneLoop 4 (by kernel_rfl) (by kernel_rfl) (by kernel_rfl) ?_, (q_SmR_eq xs ys).trans ?_⟩
    · intro ls e ls' hl
      unfold LO_SmR at hl
      split at hl
      · rename_i p q i
        cases hg : (isL p && isL q && (i == 0)) with
        | false => rw [hg] at hl; simp only [pickA, Bool.false_and, cond_false] at hl; cases hl
        | true =>
          rw [hg, Bool.true_and] at hl
          simp only [Bool.and_eq_true, beq_iff_eq] at hg
          obtain ⟨us, rfl, hu⟩ := isL_inv hg.1.1
          obtain ⟨vs, rfl, hv⟩ := isL_inv hg.1.2
          obtain rfl := hg.2
          simp only [asL_mk] at hl
          have tree := r_SmR0_eq us vs
          have w1 : PV.sl (PV.slN (List.headD [pL us] PV.nilp)) (PV.slL (List.headD [pL us] PV.nilp)) = pL us := rfl
          have w2 : PV.sl (PV.slN (List.headD [pL vs] PV.nilp)) (PV.slL (List.headD [pL vs] PV.nilp)) = pL vs := rfl
          have e1 : asL (pL us) = us := asL_mk us
          have e2 : asL (pL vs) = vs := asL_mk vs
          have e3 : isL (pL us) = true := isL_mk hu
          have e4 : isL (pL vs) = true := isL_mk hv
          rw [w1, w2, e1, e2, e3, e4] at tree
          cases ha : sameX us vs with
          | true =>
            rw [ha] at hl tree
            cases hl
            exact .step _ _ _ tree (.done _ _ (r_SmR1_eq us vs))
          | false =>
            rw [ha] at hl tree
            cases hl
            exact .done _ _ tree
      · cases hl
    · have e1 : asL (pL xs) = xs := asL_mk xs
      have e2 : asL (pL ys) = ys := asL_mk ys
      have e3 : isL (pL xs) = true := isL_mk hx
      have e4 : isL (pL ys) = true := isL_mk hy
      rw [e1, e2, e3, e4]
      cases sameX xs ys <;> rfl
  · cases h
end
end Go.Proofs.YtjbjgeekglpmlaaGreatDoor
