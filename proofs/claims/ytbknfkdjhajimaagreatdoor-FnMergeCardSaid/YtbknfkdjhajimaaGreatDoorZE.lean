/- Results that are only read from now on: a contract's own lists turn into plain values, a nil list into an empty one.
Results that are only read from now on, also lists that were written in place: nobody holds them any more but the caller.
Walking over a tree, by the reckoner: what is stated.
Trees (printed by vx/trees.sh; numbers of one seat).
Walking over a tree, by the reckoner: proofs.
The law of walking over a tree, by the reckoner: what is stated.
Trees (printed by vx/trees.sh; numbers of one seat).
The law of walking over a tree, by the reckoner: proofs. -/
import Derived.Test.YtbknfkdjhajimaaGreatDoorVx3
import Derived.Test.YtbknfkdjhajimaaGreatDoorZC
import Derived.Test.YtbknfkdjhajimaaGreatDoorZB
import Derived.Test.YtbknfkdjhajimaaGreatDoorCloS
namespace Go.Proofs.YtbknfkdjhajimaaGreatDoor
section
open Go.RowKit
set_option linter.unusedVariables false

def CV.frz : CV → CV
  | .lst _ _ n l false => .pv (.sl n l)
  | .pv .nils => .pv (.sl 0 [])
  | c => c
def IV.frz1 : IV → IV
  | .cv c => .cv c.frz
  | .agg l => .agg (l.map CV.frz)
  | i => i
def IV.frz : IV → IV
  | .tup is => .tup (is.map IV.frz1)
  | i => i.frz1
section
variable {w : World} {com : Nat → Nat} {loc : Nat → Option Value}
theorem CRep.frz {v : Value} {c : CV} {bs : List Nat} (h : CRep w com loc v c bs) : ∃ bs', CRep w com loc v c.frz bs' ∧ bs'.Sublist bs := by
  cases h with
  | bad => exact ⟨[], .bad v, List.Sublist.refl _⟩
  | pv p h =>
    cases p with
    | nils =>
      cases h
      exact ⟨[], .pv _ _ (.sl0 none 0), List.Sublist.refl _⟩
    | _ => exact ⟨[], .pv _ _ h, List.Sublist.refl _⟩
  | al d h => exact ⟨[], .al v d h, List.Sublist.refl _⟩
  | lst k e n l mt xs h =>
    cases mt with
    | true => exact ⟨_, .lst v k e n l true xs h, List.Sublist.refl _⟩
    | false => exact ⟨[], .pv _ _ h.snap, List.nil_sublist _⟩
theorem CReps.frz {vs : List Value} {cs : List CV} {bs : List Nat} (h : CReps w com loc vs cs bs) : ∃ bs', CReps w com loc vs (cs.map CV.frz) bs' ∧ bs'.Sublist bs := by
  induction h with
  | nil => exact ⟨[], .nil, List.Sublist.refl _⟩
  | cons h h1 k ih =>
    obtain ⟨b1, r1, s1⟩ := h.frz
    obtain ⟨b2, r2, s2⟩ := ih
    exact ⟨_, .cons r1 h1 r2, s1.append s2⟩
theorem IRep.frz {v : Value} {i : IV} {bs : List Nat} (h : IRep w com v i bs) : ∃ bs', IRep w com v i.frz1 bs' ∧ bs'.Sublist bs := by
  cases h with
  | cv v c bs h =>
    obtain ⟨b, r, s⟩ := h.frz
    exact ⟨b, .cv _ _ _ r, s⟩
  | agg cs l bs h =>
    obtain ⟨b, r, s⟩ := h.frz
    exact ⟨b, .agg _ _ _ r, s⟩
  | box b o cur t l bs hb hc h => exact ⟨_, .box b o cur t l bs hb hc h, List.Sublist.refl _⟩
  | lk => rename_i h; exact ⟨_, by first | assumption | (exact .lk _ _ _ _ _ _ _ _ _ _ _ ‹_› ‹_› ‹_› ‹_› ‹_› ‹_›), List.Sublist.refl _⟩
theorem IReps.frz {vs : List Value} {is : List IV} {bs : List Nat} (h : IReps w com vs is bs) : ∃ bs', IReps w com vs (is.map IV.frz1) bs' ∧ bs'.Sublist bs := by
  induction h with
  | nil => exact ⟨[], .nil, List.Sublist.refl _⟩
  | cons h k ih =>
    obtain ⟨b1, r1, s1⟩ := h.frz
    obtain ⟨b2, r2, s2⟩ := ih
    exact ⟨_, .cons r1 r2, s1.append s2⟩
theorem RRep.frz {v : Value} {i : IV} {bs : List Nat} (h : RRep w com v i bs) : ∃ bs', RRep w com v i.frz bs' ∧ bs'.Sublist bs := by
  cases h with
  | one v i bs h =>
    have hh := h
    cases h with
    | cv v c bs h =>
      obtain ⟨b, r, s⟩ := hh.frz
      exact ⟨b, .one _ _ _ r, s⟩
    | agg cs l bs h =>
      obtain ⟨b, r, s⟩ := hh.frz
      exact ⟨b, .one _ _ _ r, s⟩
    | box b o cur t l bs hb hc h =>
      obtain ⟨b, r, s⟩ := hh.frz
      exact ⟨b, .one _ _ _ r, s⟩
    | lk =>
      obtain ⟨b, r, s⟩ := hh.frz
      exact ⟨b, .one _ _ _ r, s⟩
  | tup vs is bs h =>
    obtain ⟨b, r, s⟩ := h.frz
    exact ⟨b, .tup _ _ _ r, s⟩
end
theorem Contract.frz {P : Program} {g : FuncId} {ivs : List IV} {res : IV} {bxs : List (List CV)} (h : Contract P g ivs res bxs) : Contract P g ivs res.frz bxs := by
  intro w com vals bs hI hnd hfresh hgl
  refine (h w com vals bs hI hnd hfresh hgl).mono ?_
  rintro e w' ⟨v, com', rbs, bbs, he, hx, hf, hc, hk, hr, hb, hn, hm⟩
  obtain ⟨rbs', hr', hs⟩ := hr.frz
  exact ⟨v, com', rbs', bbs, he, hx, hf, hc, hk, hr', hb, hn.sublist (hs.append (List.Sublist.refl _)), fun b hb => hm b ((hs.append (List.Sublist.refl _)).subset hb)⟩
/-- .. whose result is a new list. -/
theorem contract_new {P : Program} {g : FuncId} {ps : List PV} {k : Nat} {e : TypeId} {n : Nat} {l : List PV} (h : ∀ (w : World) (com : Nat → Nat) (vals : List Value), PReps w com vals ps → (∀ b, w.heap.size ≤ b → com b = 0) →
    Calls P g vals.toArray w fun ex w' => ∃ v xs, ex = .returned v ∧ w'.ownsRow w.heap.size e k v n xs ∧ PReps w com xs l ∧ (∀ u ∈ xs, u.oneCell' = true) ∧ Below w.heap.size w w') (he : e < 1000000 := by decide) : Contract P g (ps.map fun p => .cv (.pv p)) (.cv (.lst k e n l false)) [] := by
  intro w com vals bs hI hnd hfresh hgl
  obtain ⟨hp, rfl⟩ := ivs_inv hI
  refine (h w com vals hp hfresh).mono ?_
  rintro ex w' ⟨v, xs, rfl, ho, hr, h1, hb⟩
  have hnew : ∀ b, v.ownBlock = some b → w.heap.size ≤ b ∧ b < w'.heap.size := fun b hv => by
    rcases ho.2 with ⟨rfl, _⟩ | ⟨g', cap, cur, rfl, hge, hg, _⟩
    · cases hv
    · cases hv
      refine ⟨hge, ?_⟩
      have := (Array.getElem?_eq_some_iff.1 hg).1
      exact this
  have hx : Ext w com w' (fun b => if v.ownBlock = some b then n * k else com b) := by
    refine ⟨fun b => ?_, fun b i hi => ?_⟩
    · split
      · rename_i hv
        rw [hfresh b (hnew b hv).1]
        exact Nat.zero_le _
      · exact Nat.le_refl _
    · have hlt : b < w.heap.size := by
        rcases Nat.lt_or_ge b w.heap.size with h | h
        · exact h
        · rw [hfresh b h] at hi; exact absurd hi (Nat.not_lt_zero _)
      exact contract_flatG.cell_of_block (hb.block b hlt)
  have hown : w'.ownsRow 0 e k v n xs := by
    refine ⟨ho.1, ?_⟩
    rcases ho.2 with h | ⟨g', cap, cur, h1, h2, h3⟩
    · exact .inl h
    · exact .inr ⟨g', cap, cur, h1, Nat.zero_le _, h3⟩
  have hL : LRep w' (fun b => if v.ownBlock = some b then n * k else com b) v k e n l false xs := ⟨.of hown he, hr.mono hx, h1, fun b hv => by rw [if_pos hv]; rfl⟩
  refine ⟨v, _, v.ownBlock.toList, [], rfl, hx, ⟨hb.os, hb.tape, hb.output, hb.size, fun b hlt _ => hb.block b hlt⟩, fun b hs => ?_, fun b hlt _ => ?_, .one _ _ _ (.cv _ _ _ (.lst v k e n l false xs hL)), ?_, ?_, ?_⟩
  · split
    · rename_i hv
      exact absurd (hnew b hv).2 (by omega)
    · exact hfresh b (Nat.le_trans hb.size hs)
  · split
    · rename_i hv
      exact absurd (hnew b hv).1 (by omega)
    · rfl
  · have : ∀ {ps : List PV} {vs : List Value}, vs.length = ps.length → BRep w' (fun b => if v.ownBlock = some b then n * k else com b) vs (ps.map fun p => .cv (.pv p)) [] [] := by
      intro ps
      induction ps with
      | nil => intro vs h; rw [List.length_eq_zero_iff.1 h]; exact .nil
      | cons p ps ih =>
        intro vs h
        cases vs with
        | nil => simp at h
        | cons v vs => exact .other _ _ _ _ _ _ rfl (ih (by simpa using h))
    exact this hp.1
  · rw [List.append_nil]
    cases v.ownBlock <;> simp
  · intro b hb'
    rw [List.append_nil] at hb'
    exact .inr (hnew b (Option.mem_toList.1 hb')).1
end

section
open Go.RowKit
set_option linter.unusedVariables false

def CV.frzM : CV → CV
  | .lst _ _ n l _ => .pv (.sl n l)
  | .pv .nils => .pv (.sl 0 [])
  | c => c
def IV.frzM1 : IV → IV
  | .cv c => .cv c.frzM
  | .agg l => .agg (l.map CV.frzM)
  | i => i
def IV.frzM : IV → IV
  | .tup is => .tup (is.map IV.frzM1)
  | i => i.frzM1
def IV.noBox : IV → Bool
  | .tup is => is.all fun i => !i.isBox
  | i => !i.isBox
/-- The result's blocks, all committed. -/
def comR (w : World) (com : Nat → Nat) (bs : List Nat) : Nat → Nat := fun b => if b ∈ bs then com b + comTop w b else com b
section
variable {w : World} {com : Nat → Nat} {loc : Nat → Option Value}
theorem ext_comR (w : World) (com : Nat → Nat) (bs : List Nat) : Ext w com w (comR w com bs) := ⟨fun b => by
  unfold comR
  split
  · exact Nat.le_add_right _ _
  · exact Nat.le_refl _, fun _ _ _ => rfl⟩
theorem LRep.all {v : Value} {k : Nat} {e : TypeId} {n : Nat} {l : List PV} {mt : Bool} {xs : List Value} (h : LRep w com v k e n l mt xs) {bs : List Nat} (hb : ∀ b ∈ v.ownBlock.toList, b ∈ bs) : PRep w (comR w com bs) v (.sl n l) := by
  have hlen := h.len
  have hx := ext_comR w com bs
  rcases h.own.2 with ⟨rfl, rfl⟩ | ⟨g, cap, cur, rfl, hg0, hg, hnc, hcm, hcs, htake⟩
  · have : l = [] := List.length_eq_zero_iff.1 (by simpa using hlen)
    subst this
    exact .sl0 none 0
  · have hc : ∀ i v, xs[i]? = some v → w.cell? ⟨g, 0 + i, none⟩ = some v := fun i u hu => by
      have hc := h.own.cells (g := g) rfl i u hu
      have ea : (⟨g, 0, none⟩ : Addr).add i = ⟨g, 0 + i, none⟩ := by unfold Addr.add; split <;> simp_all
      rwa [ea] at hc
    refine .sl g 0 n cap xs l hnc h.reps.1 h.one (fun i hi => ?_) hc (h.reps.mono hx).2
    have hlx := h.reps.1
    have := comTop_at (hc i xs[i] (List.getElem?_eq_getElem (by omega)))
    unfold comR
    rw [if_pos (hb g (by simp [Value.ownBlock]))]
    omega
theorem CRep.frzM {v : Value} {c : CV} {bs : List Nat} (h : CRep w com loc v c bs) {B : List Nat} (hb : ∀ b ∈ bs, b ∈ B) : CRep w (comR w com B) loc v c.frzM [] := by
  have hx := ext_comR w com B
  cases h with
  | bad => exact .bad v
  | pv p h =>
    cases p with
    | nils =>
      cases h
      exact .pv _ _ (.sl0 none 0)
    | _ => exact .pv _ _ (h.mono hx)
  | al d h => exact .al v d h
  | lst k e n l mt xs h => exact .pv _ _ (h.all hb)
theorem CReps.frzM {vs : List Value} {cs : List CV} {bs : List Nat} (h : CReps w com loc vs cs bs) {B : List Nat} (hb : ∀ b ∈ bs, b ∈ B) : CReps w (comR w com B) loc vs (cs.map CV.frzM) [] := by
  induction h with
  | nil => exact .nil
  | cons h h1 k ih => exact .cons (h.frzM fun b hx => hb b (List.mem_append.2 (.inl hx))) h1 (ih fun b hx => hb b (List.mem_append.2 (.inr hx)))
theorem IRep.frzM {v : Value} {i : IV} {bs : List Nat} (h : IRep w com v i bs) (hn : i.isBox = false) {B : List Nat} (hb : ∀ b ∈ bs, b ∈ B) : IRep w (comR w com B) v i.frzM1 [] := by
  cases h with
  | cv v c bs h => exact .cv _ _ _ (h.frzM hb)
  | agg cs l bs h => exact .agg _ _ _ (h.frzM hb)
  | box b o cur t l bs hb hc h => cases hn
  | lk => cases hn
theorem IReps.frzM {vs : List Value} {is : List IV} {bs : List Nat} (h : IReps w com vs is bs) (hn : (is.all fun i => !i.isBox) = true) {B : List Nat} (hb : ∀ b ∈ bs, b ∈ B) : IReps w (comR w com B) vs (is.map IV.frzM1) [] := by
  induction h with
  | nil => exact .nil
  | cons h k ih =>
    rw [List.all_cons, Bool.and_eq_true] at hn
    exact .cons (h.frzM (by simpa using hn.1) fun b hx => hb b (List.mem_append.2 (.inl hx))) (ih hn.2 fun b hx => hb b (List.mem_append.2 (.inr hx)))
theorem RRep.frzM {v : Value} {i : IV} {bs : List Nat} (h : RRep w com v i bs) (hn : i.noBox = true) {B : List Nat} (hb : ∀ b ∈ bs, b ∈ B) : RRep w (comR w com B) v i.frzM [] := by
  cases h with
  | one v i bs h =>
    have hh := h
    cases h with
    | cv v c bs h => exact .one _ _ _ (hh.frzM rfl hb)
    | agg cs l bs h => exact .one _ _ _ (hh.frzM rfl hb)
    | box b o cur t l bs hb hc h => cases hn
    | lk => cases hn
  | tup vs is bs h => exact .tup _ _ _ (h.frzM hn hb)
theorem BRep.keepM {com' : Nat → Nat} {vs : List Value} {is : List IV} {bx : List (List CV)} {bs : List Nat} (h : BRep w com vs is bx bs) (x : Ext w com w com') (hb : ∀ b ∈ bs, com' b = com b) : BRep w com' vs is bx bs := by
  induction h with
  | nil => exact .nil
  | box b o cur t l l' bs vs is bx bs' h1 hc h k ih =>
    exact .box b o cur t l l' bs vs is bx bs' h1 ((hb b (by simp)).trans hc) (h.keep x (fun _ _ h => h) fun b' hx => ⟨rfl, hb b' (by simp [hx])⟩) (ih fun b' hx => hb b' (by simp [hx]))
  | lk g c1 v c2 pre k e n l l' post xs hl h vs is bx bs' k' ih =>
    exact .lk g c1 v c2 pre k e n l l' post xs hl (h.keep x fun b hv => ⟨rfl, hb b (by simp [hv])⟩) vs is bx bs' (ih fun b' hx => hb b' (by simp [hx]))
  | other v i vs is bx bs hi k ih => exact .other v i vs is bx bs hi (ih hb)
theorem CReps.blkM {vs : List Value} {cs : List CV} {bs : List Nat} (h : CReps w com loc vs cs bs) : ∀ b ∈ bs, b < w.heap.size := h.lt
theorem IRep.blkM {v : Value} {i : IV} {bs : List Nat} (h : IRep w com v i bs) : ∀ b ∈ bs, b < w.heap.size := by
  have := (IReps.cons h .nil).blk
  rwa [List.append_nil] at this
theorem RRep.blkM {v : Value} {i : IV} {bs : List Nat} (h : RRep w com v i bs) : ∀ b ∈ bs, b < w.heap.size := by
  cases h with
  | one v i bs h => exact h.blkM
  | tup vs is bs h => exact h.blk
end
theorem Contract.frzM {P : Program} {g : FuncId} {ivs : List IV} {res : IV} {bxs : List (List CV)} (h : Contract P g ivs res bxs) (hnb : res.noBox = true) : Contract P g ivs res.frzM bxs := by
  intro w com vals bs hI hnd hfresh hgl
  refine (h w com vals bs hI hnd hfresh hgl).mono ?_
  rintro e w' ⟨v, com', rbs, bbs, he, hx, hf, hc, hk, hr, hb, hn, hm⟩
  obtain ⟨hn1, hn2, hn3⟩ := List.nodup_append.1 hn
  have hx2 := ext_comR w' com' rbs
  refine ⟨v, comR w' com' rbs, [], bbs, he, hx.trans hx2, hf, fun b hs => ?_, fun b hlt hnb' => ?_, hr.frzM hnb fun b h => h, hb.keepM hx2 fun b hb' => ?_, hn2, fun b hb' => hm b (List.mem_append.2 (.inr (by simpa using hb')))⟩
  · unfold comR
    rw [if_neg (fun h => absurd (hr.blkM b h) (by omega))]
    exact hc b hs
  · unfold comR
    rw [if_neg (fun h => ?_)]
    · exact hk b hlt hnb'
    · rcases hm b (List.mem_append.2 (.inl h)) with h | h
      · exact hnb' h
      · omega
  · unfold comR
    rw [if_neg (fun h => hn3 b h b hb' rfl)]
theorem entry_ofM {P : Program} (hmix : P.follows .mixedOrders = true) {tab : List (FuncId × Entry)} (hT : EntriesOk P tab) {lp : List (Nat × List Nat × List Nat)} {LO : LoopT} {g : FuncId} {fn : Func} (hf : FnAt P g fn) (h0 : Nat.blt 0 fn.ntmps = true) {E : Entry}
    (h : ∀ ivs res bxs, pickA (E ivs) = some (res, bxs) → (∀ b ∈ loopsIn (bodyOf fn), LoopOk P (tabL tab) (OL lp) fn.ntmps (pbOf (boxSlots 0 ivs)) LO b) ∧ ∃ R, evB brC P tab lp LO fn ivs = some (R, bxs) ∧ R.noBox = true ∧ R.frzM = res) : EntryOk P g E :=
  ⟨⟨_, hf⟩, fun ivs res bxs he => by
    obtain ⟨h1, R, h2, h3, rfl⟩ := h ivs res bxs he
    exact (fun_okB hmix (tabL_ok hT) hf h0 rfl h1 h2).frzM h3⟩
end

section
open Go.RowKit
set_option linter.unusedVariables false

noncomputable abbrev gnT (n : Nat) (l : List PV) : List NodeT := (treeV n l 0).1.2
noncomputable abbrev gnW (n : Nat) (l : List PV) : ByteArray × List ByteArray := (whereV (gnT n l) n l (treeV n l 0).2).1
noncomputable def E_getNode0 : Entry := fun ivs => match ivs with
  | [.cv (.pv (.sl n l))] =>
    [(wfB n l && decide (n ≤ 1048577) && (treeV n l 0).1.1, .tup [.agg [.pv .nils], cS (gnW n l).1, lS (gnW n l).2.length ((gnW n l).2.map .str)], []),
     (wfB n l && decide (n ≤ 1048577), .tup [.agg [.lst 3 33 (gnT n l).length (encN (gnT n l)) false], cS (gnW n l).1, lS (gnW n l).2.length ((gnW n l).2.map .str)], [])]
  | _ => []
noncomputable abbrev gnRes (n : Nat) (l : List PV) : IV := .tup [.agg [.pv (pNs (gnT n l))], cS (gnW n l).1, cP (pL (gnW n l).2)]
noncomputable def E_getNode : Entry := fun ivs => match ivs with
  | [.cv (.pv (.sl n l))] => [(wfB n l && decide (n ≤ 1048577), gnRes n l, [])]
  | _ => []
noncomputable def yab : List (FuncId × Entry) := []
noncomputable def E_ClonS : Entry := fun ivs => match ivs with | [.cv (.pv p)] => [(isL p, cP p, [])] | _ => []
noncomputable def iab9 : List (FuncId × Entry) := (100, E_ClonS) :: (24, E_ITreeOk) :: iab8
abbrev lp_QueryOf : List (Nat × List Nat × List Nat) := [(4, [1, 2, 20, 21, 22], [6, 7])]
noncomputable def LO_QueryOf : LoopT := fun _ ls => match ls with
  | [(.pv (.str s), none), (.pv q, none), (.pv p, none), (.pv (.int .i64 n), none), (.pv (.int .i64 i), none)] =>
    [(isNs p && isL q && (n == ((asNs p).length : Int)) && (i == 0) && (nextQ (asNs p) s (asL q)).isSome, .ret, [aP (pL (((nextQ (asNs p) s (asL q)).map NodeT.subs).getD [])), aB true]),
     (isNs p && isL q && (n == ((asNs p).length : Int)) && (i == 0), .exit 0, [aX, aX])]
  | _ => []
end

section
set_option linter.unusedVariables false
set_option maxRecDepth 100000
end

section
open Go.RowKit
set_option linter.unusedVariables false
set_option linter.unusedSimpArgs false
set_option maxRecDepth 100000

/-- What is known of a drawn tree and a drawn place. -/
theorem gn_facts {n : Nat} {l : List PV} (hw : wfB n l = true) (hn : n ≤ 1048577) : (treeV n l 0).2 ≤ 200 ∧ treeR (treeV n l 0).1 ∧ whR (gnW n l) := by
  obtain ⟨_, h2, h3, _⟩ := drawV_ok tree_draw hw hn (k := 0) (by omega)
  have h2' : (treeV n l 0).2 ≤ 0 + 200 := h2
  obtain ⟨_, _, h6, _⟩ := drawV_ok (where_draw h3.1 h3.2.1 h3.2.2.1) hw hn (k := (treeV n l 0).2) (by omega)
  exact ⟨by omega, h3, h6⟩
theorem ok_yab : EntriesOk Tryz.prog yab := trivial
/-- A list of texts, copied. -/
theorem strs_ofP {w : World} {com : Nat → Nat} : ∀ {cs : List Value} {xs : List ByteArray}, PReps w com cs (xs.map PV.str) → cs = xs.map Value.string
  | [], [], _ => rfl
  | [], _ :: _, h => by have := h.1; simp at this
  | _ :: _, [], h => by have := h.1; simp at this
  | c :: cs, x :: xs, h => by
    obtain ⟨v, vs, he, h1, h2⟩ := PReps.of_cons h
    cases he
    rw [List.map_cons, strs_ofP h2]
    cases h1
    rfl
theorem reps_strs (w : World) (com : Nat → Nat) : ∀ xs : List ByteArray, PReps w com (xs.map Value.string) (xs.map PV.str)
  | [] => PReps.nil _ _
  | x :: xs => .cons (.str x) (reps_strs w com xs)
theorem one_strs (xs : List ByteArray) : ∀ u ∈ xs.map Value.string, u.oneCell' = true := fun u hu => by
  obtain ⟨x, _, rfl⟩ := List.mem_map.1 hu
  rfl
theorem ok_ClonS : EntryOk Tryz.prog 100 E_ClonS := ⟨⟨_, Tryz.func100, by kernel_rfl, by kernel_rfl⟩, fun ivs res bxs h => by
  unfold E_ClonS at h
  split at h
  · rename_i p
    obtain ⟨hc, he⟩ := pick1 h
    cases he
    obtain ⟨xs, rfl, hx⟩ := isL_inv hc
    refine (contract_new (ps := [pL xs]) (k := 1) (e := 9) (n := xs.length) (l := xs.map .str) fun w com vals hv hfr => ?_).frz
    obtain ⟨v, vs, rfl, hv1, hn1⟩ := hv.of_cons
    rw [hn1.of_nil]
    generalize hp : pL xs = p at hv1
    cases hv1 with
    | sl0 a cap =>
      have : xs = [] := by
        unfold pL at hp
        injection hp with h1 h2
        exact List.length_eq_zero_iff.1 h1
      subst this
      cases a with
      | none =>
        refine (Tryz.slices_Clone_string_nil 0 cap w).mono ?_
        rintro e w' ⟨rfl, rfl⟩
        exact ⟨_, [], rfl, World.ownsRow_nil _ _ _ _, PReps.nil _ _, (fun _ h => (List.not_mem_nil h).elim), Below.refl _ _⟩
      | some a =>
        refine (Tryz.slices_Clone_string_zero a cap w).mono ?_
        rintro e w' ⟨v', rfl, ho, _, hb⟩
        exact ⟨_, [], rfl, ho, PReps.nil _ _, (fun _ h => (List.not_mem_nil h).elim), hb⟩
    | sl b off n cap cs l hnc hl h1 hcm hm hee =>
      unfold pL at hp
      injection hp with hp1 hp2
      subst hp1
      subst hp2
      have hcs := strs_ofP ⟨hl, hee⟩
      subst hcs
      have hxl := hx.1
      refine (Tryz.slices_Clone_string b off xs.length cap xs w (Nat.le_refl _) (by omega) fun j hj => ?_).mono ?_
      · have := hm j (.string xs[j]) (by rw [List.getElem?_map, List.getElem?_eq_getElem hj]; rfl)
        rw [this, List.getD_eq_getElem?_getD, List.getElem?_eq_getElem hj]
        rfl
      · rintro e w' ⟨v', rfl, ho, _, hb⟩
        rw [List.take_length] at ho
        exact ⟨v', _, rfl, ho, reps_strs _ _ _, one_strs _, hb⟩
    | _ => cases hp
  · cases h⟩
theorem ok_iab9 : EntriesOk Tryz.prog iab9 := ⟨ok_ClonS, ok_ITreeOk, ok_iab8⟩
noncomputable def E_QueryOf : Entry := fun ivs => match ivs with
  | [.cv (.pv p), .cv (.pv (.str s)), .cv (.pv q)] =>
    [(isT p && decide (s.size ≤ 1000000) && isL q && (treeB (asT p) && placeB s (asL q) && (nextQ (asT p) s (asL q)).isSome), .tup [cP (pL (((nextQ (asT p) s (asL q)).map NodeT.subs).getD [])), cB true], []),
     (isT p && decide (s.size ≤ 1000000) && isL q, .tup [cP .nils, cB false], [])]
  | _ => []
end

section
open Go.RowKit
set_option linter.unusedVariables false

def E_b10Long : Entry := fun ivs => match ivs with
  | [.cv (.pv (.sl n l)), .cv (.pv (.sl m k))] => [(true, cB (decide ((n : Int) > 1048576) || decide ((m : Int) > 1048576)), [])]
  | _ => []
noncomputable def q_b10Long (br : Br) (n : Nat) (l : List PV) (m : Nat) (k : List PV) := evB br Tryz.prog [] [] LO0 Tryz.f5 [cP (.sl n l), cP (.sl m k)]
noncomputable def lab0 : List (FuncId × Entry) := (5, E_b10Long) :: sab5
abbrev lp_tq : List (Nat × List Nat × List Nat) := [(8, [5, 6, 8, 9], [5, 6, 8]), (14, [5, 6, 8, 10, 11], [4, 5, 6, 10])]
noncomputable def LO_tq : LoopT := fun k ls => match k, ls with
  | 8, [(.ptr x 0, some (.box [.pv p])), (.pv (.str s), none), (.own y, some (.lst 3 e n l false)), (.pv (.int .i64 i), none)] =>
    [(isNs p && (i == 0) && Nat.beq x 20480 && Nat.beq y 32768 && Nat.beq e 33 && Nat.beq n 0 && nilB l, .exit 0, [aBx 5 [.pv p], aS s, aL 8 3 33 (ownT s (asNs p)).length (encN (ownT s (asNs p)))])]
  | 14, [(.ptr x 0, some (.box [.pv p])), (.pv (.str s), none), (.own y, some (.lst 3 e n l false)), (.own z, some (.lst 1 e' n' l' false)), (.pv (.int .i64 i), none)] =>
    [(isNs p && (i == 0) && Nat.beq x 20480 && Nat.beq y 32768 && Nat.beq z 40960 && Nat.beq e 33 && Nat.beq e' 9 && Nat.beq n' 0 && nilB l' && treeB (asNs p) && nameB s && decide (s.size ≤ 1000000) && Nat.beq n (ownT s (asNs p)).length && holds (l = encN (ownT s (asNs p))) && Nat.beq n 0,
      .exit 2, [aX, aBx 5 [.pv p], aS s, aL 10 1 9 0 []]),
     (isNs p && (i == 0) && Nat.beq x 20480 && Nat.beq y 32768 && Nat.beq z 40960 && Nat.beq e 33 && Nat.beq e' 9 && Nat.beq n' 0 && nilB l' && treeB (asNs p) && nameB s && decide (s.size ≤ 1000000) && Nat.beq n (ownT s (asNs p)).length && holds (l = encN (ownT s (asNs p))),
      .exit 2, [aX, aBx 5 [.pv p], aS s, aP (pL (atQ (ownT s (asNs p)) n))])]
  | _, _ => []
end

section
set_option linter.unusedVariables false
set_option maxRecDepth 100000
theorem q_b10Long_eq (n : Nat) (l : List PV) (m : Nat) (k : List PV) : q_b10Long brC n l m k =
 brC (decide ((↑n : Int) > 1048576))
  (some ((IV.cv (CV.pv (PV.bool true)), [])))
  (some ((IV.cv (CV.pv (PV.bool (decide ((↑m : Int) > 1048576)))), []))) := by kernel_rfl
end

section
open Go.RowKit
set_option linter.unusedVariables false
set_option linter.unusedSimpArgs false
set_option maxRecDepth 100000

theorem shL_nilq : shL [] := ⟨by simp, by simp⟩
theorem ok_b10Long : EntryOk Tryz.prog 5 E_b10Long := entry_of mix (tab := []) trivial (lp := []) (LO := LO0) ⟨Tryz.func5, by kernel_rfl, by kernel_rfl⟩ (by kernel_rfl) fun ivs res bxs h => by
  unfold E_b10Long at h
  split at h
  · rename_i n l m k
    cases h
    refine ⟨noLoop (by kernel_rfl), (q_b10Long_eq n l m k).trans ?_⟩
    cases decide ((n : Int) > 1048576) <;> rfl
  · cases h
theorem ok_lab0 : EntriesOk Tryz.prog lab0 := ⟨ok_b10Long, ok_sab5⟩
theorem atQ_sh {s : ByteArray} {t : List NodeT} (h : shT t) (i : Nat) : shL (atQ (ownT s t) i) := by
  unfold atQ
  split
  · exact shL_nilq
  · cases ho : (ownT s t)[i - 1]? with
    | none => exact shL_nilq
    | some x => exact (h.2 x (ownT_mem (List.mem_of_getElem? ho))).2.1
theorem atQ_succ {o : List NodeT} {i : Nat} (hi : i < o.length) : atQ o (i + 1) = o[i].subs := by
  unfold atQ
  rw [if_neg (by omega), Nat.add_sub_cancel, List.getElem?_eq_getElem hi]
  rfl
/-- The list of the walk, at the start and later. -/
def atA (o : List NodeT) (i : Nat) : AV × Option Ob := if i = 0 then aL 10 1 9 0 [] else aP (pL (atQ o i))
end
end Go.Proofs.YtbknfkdjhajimaaGreatDoor
