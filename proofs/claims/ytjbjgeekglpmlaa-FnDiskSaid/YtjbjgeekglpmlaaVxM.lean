/- Results that are only read from now on, also lists that were written in place: nobody holds them any more but the caller. -/
import Derived.Test.YtjbjgeekglpmlaaVxF
namespace Go.Proofs.Ytjbjgeekglpmlaa
open Go.RowKit
set_option linter.unusedVariables false

def CV.frzM : CV → CV
  | .lst _ _ n l _ => .pv (.sl n l)
  | .pv .nils => .pv (.sl 0 [])
  | c => c
def IV.frzM1 : IV → IV
  | .cv c => .cv c.frzM
  | .agg l => .agg (l.map CV.frzM)
  | i => i
def IV.frzM : IV → IV
  | .tup is => .tup (is.map IV.frzM1)
  | i => i.frzM1
def IV.noBox : IV → Bool
  | .tup is => is.all fun i => !i.isBox
  | i => !i.isBox
/-- The result's blocks, all committed. -/
def comR (w : World) (com : Nat → Nat) (bs : List Nat) : Nat → Nat := fun b => if b ∈ bs then com b + comTop w b else com b
section
variable {w : World} {com : Nat → Nat} {loc : Nat → Option Value}
theorem ext_comR (w : World) (com : Nat → Nat) (bs : List Nat) : Ext w com w (comR w com bs) := ⟨fun b => by
  unfold comR
  split
  · exact Nat.le_add_right _ _
  · exact Nat.le_refl _, fun _ _ _ => rfl⟩
theorem LRep.all {v : Value} {k : Nat} {e : TypeId} {n : Nat} {l : List PV} {mt : Bool} {xs : List Value} (h : LRep w com v k e n l mt xs) {bs : List Nat} (hb : ∀ b ∈ v.ownBlock.toList, b ∈ bs) : PRep w (comR w com bs) v (.sl n l) := by
  have hlen := h.len
  have hx := ext_comR w com bs
  rcases h.own.2 with ⟨rfl, rfl⟩ | ⟨g, cap, cur, rfl, hg0, hg, hnc, hcm, hcs, htake⟩
  · have : l = [] := List.length_eq_zero_iff.1 (by simpa using hlen)
    subst this
    exact .sl0 none 0
  · have hc : ∀ i v, xs[i]? = some v → w.cell? ⟨g, 0 + i, none⟩ = some v := fun i u hu => by
      have hc := h.own.cells (g := g) rfl i u hu
      have ea : (⟨g, 0, none⟩ : Addr).add i = ⟨g, 0 + i, none⟩ := by unfold Addr.add; split <;> simp_all
      rwa [ea] at hc
    refine .sl g 0 n cap xs l hnc h.reps.1 h.one (fun i hi => ?_) hc (h.reps.mono hx).2
    have hlx := h.reps.1
    have := comTop_at (hc i xs[i] (List.getElem?_eq_getElem (by omega)))
    unfold comR
    rw [if_pos (hb g (by simp [Value.ownBlock]))]
    omega
theorem CRep.frzM {v : Value} {c : CV} {bs : List Nat} (h : CRep w com loc v c bs) {B : List Nat} (hb : ∀ b ∈ bs, b ∈ B) : CRep w (comR w com B) loc v c.frzM [] := by
  have hx := ext_comR w com B
  cases h with
  | bad => exact .bad v
  | pv p h =>
    cases p with
    | nils =>
      cases h
      exact .pv _ _ (.sl0 none 0)
    | _ => exact .pv _ _ (h.mono hx)
  | al d h => exact .al v d h
  | lst k e n l mt xs h => exact .pv _ _ (h.all hb)
theorem CReps.frzM {vs : List Value} {cs : List CV} {bs : List Nat} (h : CReps w com loc vs cs bs) {B : List Nat} (hb : ∀ b ∈ bs, b ∈ B) : CReps w (comR w com B) loc vs (cs.map CV.frzM) [] := by
  induction h with
  | nil => exact .nil
  | cons h h1 k ih => exact .cons (h.frzM fun b hx => hb b (List.mem_append.2 (.inl hx))) h1 (ih fun b hx => hb b (List.mem_append.2 (.inr hx)))
theorem IRep.frzM {v : Value} {i : IV} {bs : List Nat} (h : IRep w com v i bs) (hn : i.isBox = false) {B : List Nat} (hb : ∀ b ∈ bs, b ∈ B) : IRep w (comR w com B) v i.frzM1 [] := by
  cases h with
  | cv v c bs h => exact .cv _ _ _ (h.frzM hb)
  | agg cs l bs h => exact .agg _ _ _ (h.frzM hb)
  | box b o cur t l bs hb hc h => cases hn
theorem IReps.frzM {vs : List Value} {is : List IV} {bs : List Nat} (h : IReps w com vs is bs) (hn : (is.all fun i => !i.isBox) = true) {B : List Nat} (hb : ∀ b ∈ bs, b ∈ B) : IReps w (comR w com B) vs (is.map IV.frzM1) [] := by
  induction h with
  | nil => exact .nil
  | cons h k ih =>
    rw [List.all_cons, Bool.and_eq_true] at hn
    exact .cons (h.frzM (by simpa using hn.1) fun b hx => hb b (List.mem_append.2 (.inl hx))) (ih hn.2 fun b hx => hb b (List.mem_append.2 (.inr hx)))
theorem RRep.frzM {v : Value} {i : IV} {bs : List Nat} (h : RRep w com v i bs) (hn : i.noBox = true) {B : List Nat} (hb : ∀ b ∈ bs, b ∈ B) : RRep w (comR w com B) v i.frzM [] := by
  cases h with
  | one v i bs h =>
    have hh := h
    cases h with
    | cv v c bs h => exact .one _ _ _ (hh.frzM rfl hb)
    | agg cs l bs h => exact .one _ _ _ (hh.frzM rfl hb)
    | box b o cur t l bs hb hc h => cases hn
  | tup vs is bs h => exact .tup _ _ _ (h.frzM hn hb)
theorem BRep.keepM {com' : Nat → Nat} {vs : List Value} {is : List IV} {bx : List (List CV)} {bs : List Nat} (h : BRep w com vs is bx bs) (x : Ext w com w com') (hb : ∀ b ∈ bs, com' b = com b) : BRep w com' vs is bx bs := by
  induction h with
  | nil => exact .nil
  | box b o cur t l l' bs vs is bx bs' h1 hc h k ih =>
    exact .box b o cur t l l' bs vs is bx bs' h1 ((hb b (by simp)).trans hc) (h.keep x (fun _ _ h => h) fun b' hx => ⟨rfl, hb b' (by simp [hx])⟩) (ih fun b' hx => hb b' (by simp [hx]))
  | other v i vs is bx bs hi k ih => exact .other v i vs is bx bs hi (ih hb)
theorem CReps.blkM {vs : List Value} {cs : List CV} {bs : List Nat} (h : CReps w com loc vs cs bs) : ∀ b ∈ bs, b < w.heap.size := h.lt
theorem IRep.blkM {v : Value} {i : IV} {bs : List Nat} (h : IRep w com v i bs) : ∀ b ∈ bs, b < w.heap.size := by
  have := (IReps.cons h .nil).blk
  rwa [List.append_nil] at this
theorem RRep.blkM {v : Value} {i : IV} {bs : List Nat} (h : RRep w com v i bs) : ∀ b ∈ bs, b < w.heap.size := by
  cases h with
  | one v i bs h => exact h.blkM
  | tup vs is bs h => exact h.blk
end
theorem Contract.frzM {P : Program} {g : FuncId} {ivs : List IV} {res : IV} {bxs : List (List CV)} (h : Contract P g ivs res bxs) (hnb : res.noBox = true) : Contract P g ivs res.frzM bxs := by
  intro w com vals bs hI hnd hfresh hgl
  refine (h w com vals bs hI hnd hfresh hgl).mono ?_
  rintro e w' ⟨v, com', rbs, bbs, he, hx, hf, hc, hk, hr, hb, hn, hm⟩
  obtain ⟨hn1, hn2, hn3⟩ := List.nodup_append.1 hn
  have hx2 := ext_comR w' com' rbs
  refine ⟨v, comR w' com' rbs, [], bbs, he, hx.trans hx2, hf, fun b hs => ?_, fun b hlt hnb' => ?_, hr.frzM hnb fun b h => h, hb.keepM hx2 fun b hb' => ?_, hn2, fun b hb' => hm b (List.mem_append.2 (.inr (by simpa using hb')))⟩
  · unfold comR
    rw [if_neg (fun h => absurd (hr.blkM b h) (by omega))]
    exact hc b hs
  · unfold comR
    rw [if_neg (fun h => ?_)]
    · exact hk b hlt hnb'
    · rcases hm b (List.mem_append.2 (.inl h)) with h | h
      · exact hnb' h
      · omega
  · unfold comR
    rw [if_neg (fun h => hn3 b h b hb' rfl)]
theorem entry_ofM {P : Program} (hmix : P.follows .mixedOrders = true) {tab : List (FuncId × Entry)} (hT : EntriesOk P tab) {lp : List (Nat × List Nat × List Nat)} {LO : LoopT} {g : FuncId} {fn : Func} (hf : FnAt P g fn) (h0 : Nat.blt 0 fn.ntmps = true) {E : Entry}
    (h : ∀ ivs res bxs, pickA (E ivs) = some (res, bxs) → (∀ b ∈ loopsIn (bodyOf fn), LoopOk P (tabL tab) (OL lp) fn.ntmps (pbOf (boxSlots 0 ivs)) LO b) ∧ ∃ R, evB brC P tab lp LO fn ivs = some (R, bxs) ∧ R.noBox = true ∧ R.frzM = res) : EntryOk P g E :=
  ⟨⟨_, hf⟩, fun ivs res bxs he => by
    obtain ⟨h1, R, h2, h3, rfl⟩ := h ivs res bxs he
    exact (fun_okB hmix (tabL_ok hT) hf h0 rfl h1 h2).frzM h3⟩
end Go.Proofs.Ytjbjgeekglpmlaa
