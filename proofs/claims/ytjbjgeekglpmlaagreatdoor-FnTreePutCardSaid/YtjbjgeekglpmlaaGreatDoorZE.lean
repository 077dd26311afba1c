/- Results that are only read from now on: a contract's own lists turn into plain values, a nil list into an empty one.
Results that are only read from now on, also lists that were written in place: nobody holds them any more but the caller.
Walking over a tree, by the reckoner: what is stated.
Trees (printed by vx/trees.sh; numbers of one seat).
Walking over a tree, by the reckoner: proofs.
The law of walking over a tree, by the reckoner: what is stated.
Trees (printed by vx/trees.sh; numbers of one seat).
The law of walking over a tree, by the reckoner: proofs. -/
import Derived.Test.YtjbjgeekglpmlaaGreatDoorVx3
import Derived.Test.YtjbjgeekglpmlaaGreatDoorZC
import Derived.Test.YtjbjgeekglpmlaaGreatDoorZB
import Derived.Test.YtjbjgeekglpmlaaGreatDoorCloS
namespace Go.Proofs.YtjbjgeekglpmlaaGreatDoor
section
open Go.RowKit
set_option linter.unusedVariables false

def CV.frz : CV → CV
  | .lst _ _ n l false => .pv (.sl n l)
  | .pv .nils => .pv (.sl 0 [])
  | c => c
def IV.frz1 : IV → IV
  | .cv c => .cv c.frz
  | .agg l => .agg (l.map CV.frz)
  | i => i
def IV.frz : IV → IV
  | .tup is => .tup (is.map IV.frz1)
  | i => i.frz1
section
variable {w : World} {com : Nat → Nat} {loc : Nat → Option Value}
theorem CRep.frz {v : Value} {c : CV} {bs : List Nat} (h : CRep w com loc v c bs) : ∃ bs', CRep w com loc v c.frz bs' ∧ bs'.Sublist bs := by
  cases h with
  | bad => exact ⟨[], .bad v, List.Sublist.refl _⟩
  | pv p h =>
    cases p with
    | nils =>
      cases h
      exact ⟨[], .pv _ _ (.sl0 none 0), List.Sublist.refl _⟩
    | _ => exact ⟨[], .pv _ _ h, List.Sublist.refl _⟩
  | al d h => exact ⟨[], .al v d h, List.Sublist.refl _⟩
  | lst k e n l mt xs h =>
    cases mt with
    | true => exact ⟨_, .lst v k e n l true xs h, List.Sublist.refl _⟩
    | false => exact ⟨[], .pv _ _ h.snap, List.nil_sublist _⟩
theorem CReps.frz {vs : List Value} {cs : List CV} {bs : List Nat} (h : CReps w com loc vs cs bs) : ∃ bs', CReps w com loc vs (cs.map CV.frz) bs' ∧ bs'.Sublist bs := by
  induction h with
  | nil => exact ⟨[], .nil, List.Sublist.refl _⟩
  | cons h h1 k ih =>
    obtain ⟨b1, r1, s1⟩ := h.frz
    obtain ⟨b2, r2, s2⟩ := ih
    exact ⟨_, .cons r1 h1 r2, s1.append s2⟩
theorem IRep.frz {v : Value} {i : IV} {bs : List Nat} (h : IRep w com v i bs) : ∃ bs', IRep w com v i.frz1 bs' ∧ bs'.Sublist bs := by
  cases h with
  | cv v c bs h =>
    obtain ⟨b, r, s⟩ := h.frz
    exact ⟨b, .cv _ _ _ r, s⟩
  | agg cs l bs h =>
    obtain ⟨b, r, s⟩ := h.frz
    exact ⟨b, .agg _ _ _ r, s⟩
  | box b o cur t l bs hb hc h => exact ⟨_, .box b o cur t l bs hb hc h, List.Sublist.refl _⟩
theorem IReps.frz {vs : List Value} {is : List IV} {bs : List Nat} (h : IReps w com vs is bs) : ∃ bs', IReps w com vs (is.map IV.frz1) bs' ∧ bs'.Sublist bs := by
  induction h with
  | nil => exact ⟨[], .nil, List.Sublist.refl _⟩
  | cons h k ih =>
    obtain ⟨b1, r1, s1⟩ := h.frz
    obtain ⟨b2, r2, s2⟩ := ih
    exact ⟨_, .cons r1 r2, s1.append s2⟩
theorem RRep.frz {v : Value} {i : IV} {bs : List Nat} (h : RRep w com v i bs) : ∃ bs', RRep w com v i.frz bs' ∧ bs'.Sublist bs := by
  cases h with
  | one v i bs h =>
    have hh := h
    cases h with
    | cv v c bs h =>
      obtain ⟨b, r, s⟩ := hh.frz
      exact ⟨b, .one _ _ _ r, s⟩
    | agg cs l bs h =>
      obtain ⟨b, r, s⟩ := hh.frz
      exact ⟨b, .one _ _ _ r, s⟩
    | box b o cur t l bs hb hc h =>
      obtain ⟨b, r, s⟩ := hh.frz
      exact ⟨b, .one _ _ _ r, s⟩
  | tup vs is bs h =>
    obtain ⟨b, r, s⟩ := h.frz
    exact ⟨b, .tup _ _ _ r, s⟩
end
theorem Contract.frz {P : Program} {g : FuncId} {ivs : List IV} {res : IV} {bxs : List (List CV)} (h : Contract P g ivs res bxs) : Contract P g ivs res.frz bxs := by
  intro w com vals bs hI hnd hfresh hgl
  refine (h w com vals bs hI hnd hfresh hgl).mono ?_
  rintro e w' ⟨v, com', rbs, bbs, he, hx, hf, hc, hk, hr, hb, hn, hm⟩
  obtain ⟨rbs', hr', hs⟩ := hr.frz
  exact ⟨v, com', rbs', bbs, he, hx, hf, hc, hk, hr', hb, hn.sublist (hs.append (List.Sublist.refl _)), fun b hb => hm b ((hs.append (List.Sublist.refl _)).subset hb)⟩
/-- .. whose result is a new list. -/
theorem contract_new {P : Program} {g : FuncId} {ps : List PV} {k : Nat} {e : TypeId} {n : Nat} {l : List PV} (h : ∀ (w : World) (com : Nat → Nat) (vals : List Value), PReps w com vals ps → (∀ b, w.heap.size ≤ b → com b = 0) →
    Calls P g vals.toArray w fun ex w' => ∃ v xs, ex = .returned v ∧ w'.ownsRow w.heap.size e k v n xs ∧ PReps w com xs l ∧ (∀ u ∈ xs, u.oneCell' = true) ∧ Below w.heap.size w w') : Contract P g (ps.map fun p => .cv (.pv p)) (.cv (.lst k e n l false)) [] := by
  intro w com vals bs hI hnd hfresh hgl
  obtain ⟨hp, rfl⟩ := ivs_inv hI
  refine (h w com vals hp hfresh).mono ?_
  rintro ex w' ⟨v, xs, rfl, ho, hr, h1, hb⟩
  have hnew : ∀ b, v.ownBlock = some b → w.heap.size ≤ b ∧ b < w'.heap.size := fun b hv => by
    rcases ho.2 with ⟨rfl, _⟩ | ⟨g', cap, cur, rfl, hge, hg, _⟩
    · cases hv
    · cases hv
      refine ⟨hge, ?_⟩
      have := (Array.getElem?_eq_some_iff.1 hg).1
      exact this
  have hx : Ext w com w' (fun b => if v.ownBlock = some b then n * k else com b) := by
    refine ⟨fun b => ?_, fun b i hi => ?_⟩
    · split
      · rename_i hv
        rw [hfresh b (hnew b hv).1]
        exact Nat.zero_le _
      · exact Nat.le_refl _
    · have hlt : b < w.heap.size := by
        rcases Nat.lt_or_ge b w.heap.size with h | h
        · exact h
        · rw [hfresh b h] at hi; exact absurd hi (Nat.not_lt_zero _)
      exact contract_flatG.cell_of_block (hb.block b hlt)
  have hown : w'.ownsRow 0 e k v n xs := by
    refine ⟨ho.1, ?_⟩
    rcases ho.2 with h | ⟨g', cap, cur, h1, h2, h3⟩
    · exact .inl h
    · exact .inr ⟨g', cap, cur, h1, Nat.zero_le _, h3⟩
  have hL : LRep w' (fun b => if v.ownBlock = some b then n * k else com b) v k e n l false xs := ⟨hown, hr.mono hx, h1, fun b hv => by rw [if_pos hv]; rfl⟩
  refine ⟨v, _, v.ownBlock.toList, [], rfl, hx, ⟨hb.os, hb.tape, hb.output, hb.size, fun b hlt _ => hb.block b hlt⟩, fun b hs => ?_, fun b hlt _ => ?_, .one _ _ _ (.cv _ _ _ (.lst v k e n l false xs hL)), ?_, ?_, ?_⟩
  · split
    · rename_i hv
      exact absurd (hnew b hv).2 (by omega)
    · exact hfresh b (Nat.le_trans hb.size hs)
  · split
    · rename_i hv
      exact absurd (hnew b hv).1 (by omega)
    · rfl
  · have : ∀ {ps : List PV} {vs : List Value}, vs.length = ps.length → BRep w' (fun b => if v.ownBlock = some b then n * k else com b) vs (ps.map fun p => .cv (.pv p)) [] [] := by
      intro ps
      induction ps with
      | nil => intro vs h; rw [List.length_eq_zero_iff.1 h]; exact .nil
      | cons p ps ih =>
        intro vs h
        cases vs with
        | nil => simp at h
        | cons v vs => exact .other _ _ _ _ _ _ rfl (ih (by simpa using h))
    exact this hp.1
  · rw [List.append_nil]
    cases v.ownBlock <;> simp
  · intro b hb'
    rw [List.append_nil] at hb'
    exact .inr (hnew b (Option.mem_toList.1 hb')).1
end

section
open Go.RowKit
set_option linter.unusedVariables false

def CV.frzM : CV → CV
  | .lst _ _ n l _ => .pv (.sl n l)
  | .pv .nils => .pv (.sl 0 [])
  | c => c
def IV.frzM1 : IV → IV
  | .cv c => .cv c.frzM
  | .agg l => .agg (l.map CV.frzM)
  | i => i
def IV.frzM : IV → IV
  | .tup is => .tup (is.map IV.frzM1)
  | i => i.frzM1
def IV.noBox : IV → Bool
  | .tup is => is.all fun i => !i.isBox
  | i => !i.isBox
/-- The result's blocks, all committed. -/
def comR (w : World) (com : Nat → Nat) (bs : List Nat) : Nat → Nat := fun b => if b ∈ bs then com b + comTop w b else com b
section
variable {w : World} {com : Nat → Nat} {loc : Nat → Option Value}
theorem ext_comR (w : World) (com : Nat → Nat) (bs : List Nat) : Ext w com w (comR w com bs) := ⟨fun b => by
  unfold comR
  split
  · exact Nat.le_add_right _ _
  · exact Nat.le_refl _, fun _ _ _ => rfl⟩
theorem LRep.all {v : Value} {k : Nat} {e : TypeId} {n : Nat} {l : List PV} {mt : Bool} {xs : List Value} (h : LRep w com v k e n l mt xs) {bs : List Nat} (hb : ∀ b ∈ v.ownBlock.toList, b ∈ bs) : PRep w (comR w com bs) v (.sl n l) := by
  have hlen := h.len
  have hx := ext_comR w com bs
  rcases h.own.2 with ⟨rfl, rfl⟩ | ⟨g, cap, cur, rfl, hg0, hg, hnc, hcm, hcs, htake⟩
  · have : l = [] := List.length_eq_zero_iff.1 (by simpa using hlen)
    subst this
    exact .sl0 none 0
  · have hc : ∀ i v, xs[i]? = some v → w.cell? ⟨g, 0 + i, none⟩ = some v := fun i u hu => by
      have hc := @World.ownsRow.cells w 0 e k _ n xs h.own g rfl i u hu
      have ea : (⟨g, 0, none⟩ : Addr).add i = ⟨g, 0 + i, none⟩ := by unfold Addr.add; split <;> simp_all
      rwa [ea] at hc
    refine .sl g 0 n cap xs l hnc h.reps.1 h.one (fun i hi => ?_) hc (h.reps.mono hx).2
    have hlx := h.reps.1
    have := comTop_at (hc i xs[i] (List.getElem?_eq_getElem (by omega)))
    unfold comR
    rw [if_pos (hb g (by simp [Value.ownBlock]))]
    omega
theorem CRep.frzM {v : Value} {c : CV} {bs : List Nat} (h : CRep w com loc v c bs) {B : List Nat} (hb : ∀ b ∈ bs, b ∈ B) : CRep w (comR w com B) loc v c.frzM [] := by
  have hx := ext_comR w com B
  cases h with
  | bad => exact .bad v
  | pv p h =>
    cases p with
    | nils =>
      cases h
      exact .pv _ _ (.sl0 none 0)
    | _ => exact .pv _ _ (h.mono hx)
  | al d h => exact .al v d h
  | lst k e n l mt xs h => exact .pv _ _ (h.all hb)
theorem CReps.frzM {vs : List Value} {cs : List CV} {bs : List Nat} (h : CReps w com loc vs cs bs) {B : List Nat} (hb : ∀ b ∈ bs, b ∈ B) : CReps w (comR w com B) loc vs (cs.map CV.frzM) [] := by
  induction h with
  | nil => exact .nil
  | cons h h1 k ih => exact .cons (h.frzM fun b hx => hb b (List.mem_append.2 (.inl hx))) h1 (ih fun b hx => hb b (List.mem_append.2 (.inr hx)))
theorem IRep.frzM {v : Value} {i : IV} {bs : List Nat} (h : IRep w com v i bs) (hn : i.isBox = false) {B : List Nat} (hb : ∀ b ∈ bs, b ∈ B) : IRep w (comR w com B) v i.frzM1 [] := by
  cases h with
  | cv v c bs h => exact .cv _ _ _ (h.frzM hb)
  | agg cs l bs h => exact .agg _ _ _ (h.frzM hb)
  | box b o cur t l bs hb hc h => cases hn
theorem IReps.frzM {vs : List Value} {is : List IV} {bs : List Nat} (h : IReps w com vs is bs) (hn : (is.all fun i => !i.isBox) = true) {B : List Nat} (hb : ∀ b ∈ bs, b ∈ B) : IReps w (comR w com B) vs (is.map IV.frzM1) [] := by
  induction h with
  | nil => exact .nil
  | cons h k ih =>
    rw [List.all_cons, Bool.and_eq_true] at hn
    exact .cons (h.frzM (by simpa using hn.1) fun b hx => hb b (List.mem_append.2 (.inl hx))) (ih hn.2 fun b hx => hb b (List.mem_append.2 (.inr hx)))
theorem RRep.frzM {v : Value} {i : IV} {bs : List Nat} (h : RRep w com v i bs) (hn : i.noBox = true) {B : List Nat} (hb : ∀ b ∈ bs, b ∈ B) : RRep w (comR w com B) v i.frzM [] := by
  cases h with
  | one v i bs h =>
    have hh := h
    cases h with
    | cv v c bs h => exact .one _ _ _ (hh.frzM rfl hb)
    | agg cs l bs h => exact .one _ _ _ (hh.frzM rfl hb)
    | box b o cur t l bs hb hc h => cases hn
  | tup vs is bs h => exact .tup _ _ _ (h.frzM hn hb)
theorem BRep.keepM {com' : Nat → Nat} {vs : List Value} {is : List IV} {bx : List (List CV)} {bs : List Nat} (h : BRep w com vs is bx bs) (x : Ext w com w com') (hb : ∀ b ∈ bs, com' b = com b) : BRep w com' vs is bx bs := by
  induction h with
  | nil => exact .nil
  | box b o cur t l l' bs vs is bx bs' h1 hc h k ih =>
    exact .box b o cur t l l' bs vs is bx bs' h1 ((hb b (by simp)).trans hc) (h.keep x (fun _ _ h => h) fun b' hx => ⟨rfl, hb b' (by simp [hx])⟩) (ih fun b' hx => hb b' (by simp [hx]))
  | other v i vs is bx bs hi k ih => exact .other v i vs is bx bs hi (ih hb)
theorem CReps.blkM {vs : List Value} {cs : List CV} {bs : List Nat} (h : CReps w com loc vs cs bs) : ∀ b ∈ bs, b < w.heap.size := h.lt
theorem IRep.blkM {v : Value} {i : IV} {bs : List Nat} (h : IRep w com v i bs) : ∀ b ∈ bs, b < w.heap.size := by
  have := (IReps.cons h .nil).blk
  rwa [List.append_nil] at this
theorem RRep.blkM {v : Value} {i : IV} {bs : List Nat} (h : RRep w com v i bs) : ∀ b ∈ bs, b < w.heap.size := by
  cases h with
  | one v i bs h => exact h.blkM
  | tup vs is bs h => exact h.blk
end
theorem Contract.frzM {P : Program} {g : FuncId} {ivs : List IV} {res : IV} {bxs : List (List CV)} (h : Contract P g ivs res bxs) (hnb : res.noBox = true) : Contract P g ivs res.frzM bxs := by
  intro w com vals bs hI hnd hfresh hgl
  refine (h w com vals bs hI hnd hfresh hgl).mono ?_
  rintro e w' ⟨v, com', rbs, bbs, he, hx, hf, hc, hk, hr, hb, hn, hm⟩
  obtain ⟨hn1, hn2, hn3⟩ := List.nodup_append.1 hn
  have hx2 := ext_comR w' com' rbs
  refine ⟨v, comR w' com' rbs, [], bbs, he, hx.trans hx2, hf, fun b hs => ?_, fun b hlt hnb' => ?_, hr.frzM hnb fun b h => h, hb.keepM hx2 fun b hb' => ?_, hn2, fun b hb' => hm b (List.mem_append.2 (.inr (by simpa using hb')))⟩
  · unfold comR
    rw [if_neg (fun h => absurd (hr.blkM b h) (by omega))]
    exact hc b hs
  · unfold comR
    rw [if_neg (fun h => ?_)]
    · exact hk b hlt hnb'
    · rcases hm b (List.mem_append.2 (.inl h)) with h | h
      · exact hnb' h
      · omega
  · unfold comR
    rw [if_neg (fun h => hn3 b h b hb' rfl)]
theorem entry_ofM {P : Program} (hmix : P.follows .mixedOrders = true) {tab : List (FuncId × Entry)} (hT : EntriesOk P tab) {lp : List (Nat × List Nat × List Nat)} {LO : LoopT} {g : FuncId} {fn : Func} (hf : FnAt P g fn) (h0 : Nat.blt 0 fn.ntmps = true) {E : Entry}
    (h : ∀ ivs res bxs, pickA (E ivs) = some (res, bxs) → (∀ b ∈ loopsIn (bodyOf fn), LoopOk P (tabL tab) (OL lp) fn.ntmps (pbOf (boxSlots 0 ivs)) LO b) ∧ ∃ R, evB brC P tab lp LO fn ivs = some (R, bxs) ∧ R.noBox = true ∧ R.frzM = res) : EntryOk P g E :=
  ⟨⟨_, hf⟩, fun ivs res bxs he => by
    obtain ⟨h1, R, h2, h3, rfl⟩ := h ivs res bxs he
    exact (fun_okB hmix (tabL_ok hT) hf h0 rfl h1 h2).frzM h3⟩
end

section
open Go.RowKit
set_option linter.unusedVariables false

noncomputable abbrev gnT (n : Nat) (l : List PV) : List NodeT := (treeV n l 0).1.2
noncomputable abbrev gnW (n : Nat) (l : List PV) : ByteArray × List ByteArray := (whereV (gnT n l) n l (treeV n l 0).2).1
noncomputable def E_getNode0 : Entry := fun ivs => match ivs with
  | [.cv (.pv (.sl n l))] =>
    [(wfB n l && decide (n ≤ 1048576) && (treeV n l 0).1.1, .tup [.agg [.pv .nils], cS (gnW n l).1, lS (gnW n l).2.length ((gnW n l).2.map .str)], []),
     (wfB n l && decide (n ≤ 1048576), .tup [.agg [.lst 3 63 (gnT n l).length (encN (gnT n l)) false], cS (gnW n l).1, lS (gnW n l).2.length ((gnW n l).2.map .str)], [])]
  | _ => []
noncomputable abbrev gnRes (n : Nat) (l : List PV) : IV := .tup [.agg [.pv (pNs (gnT n l))], cS (gnW n l).1, cP (pL (gnW n l).2)]
noncomputable def E_getNode : Entry := fun ivs => match ivs with
  | [.cv (.pv (.sl n l))] => [(wfB n l && decide (n ≤ 1048576), gnRes n l, [])]
  | _ => []
noncomputable def yab : List (FuncId × Entry) := [(81, E_getNode)]
noncomputable def q_drawQuery (br : Br) (n : Nat) (l : List PV) := evB br Tryz.prog yab [] LO0 Tryz.f35 [cP (.sl n l)]
/-! The program's walk. -/
noncomputable def E_ClonS : Entry := fun ivs => match ivs with | [.cv (.pv p)] => [(isL p, cP p, [])] | _ => []
noncomputable def iab9 : List (FuncId × Entry) := (85, E_ClonS) :: (84, E_ITreeOk) :: (24, E_ISubsBefore) :: iab8
abbrev lp_QueryOf : List (Nat × List Nat × List Nat) := [(4, [1, 2, 20, 21, 22], [6, 7])]
noncomputable def LO_QueryOf : LoopT := fun _ ls => match ls with
  | [(.pv (.str s), none), (.pv q, none), (.pv p, none), (.pv (.int .i64 n), none), (.pv (.int .i64 i), none)] =>
    [(isNs p && isL q && (n == ((asNs p).length : Int)) && (i == 0) && (nextQ (asNs p) s (asL q)).isSome, .ret, [aP (pL (((nextQ (asNs p) s (asL q)).map NodeT.subs).getD [])), aB true]),
     (isNs p && isL q && (n == ((asNs p).length : Int)) && (i == 0), .exit 0, [aX, aX])]
  | _ => []
noncomputable def r_QueryOf (br : Br) (t : List NodeT) (s : ByteArray) (xs : List ByteArray) (i : Int) := rdB br Tryz.prog iab9 lp_QueryOf LO_QueryOf Tryz.f37 4 [] [aS s, aP (pL xs), aP (pNs t), aI t.length, aI i]
noncomputable def q_QueryOf (br : Br) (t : List NodeT) (s : ByteArray) (xs : List ByteArray) := evB br Tryz.prog iab9 lp_QueryOf LO_QueryOf Tryz.f37 [cP (pT t), cS s, cP (pL xs)]
end

section
set_option linter.unusedVariables false
set_option maxRecDepth 100000
theorem q_QueryOf_eq (t : List NodeT) (s : ByteArray) (xs : List ByteArray) : q_QueryOf brC t s xs =
 brC (isT (PV.agg [PV.sl (List.length t) (encN t)]))
  (brC (!treeB (asT (PV.agg [PV.sl (List.length t) (encN t)])))
    (some ((IV.tup [IV.cv (CV.pv PV.nils), IV.cv (CV.pv (PV.bool false))], [])))
    (brC (decide (ByteArray.size s ≤ 1000000) && isL (PV.sl (List.length xs) (List.map PV.str xs)))
      (brC (!placeB s (asL (PV.sl (List.length xs) (List.map PV.str xs))))
        (some ((IV.tup [IV.cv (CV.pv PV.nils), IV.cv (CV.pv (PV.bool false))], [])))
        (brC (isNs (pNs t) && isL (pL xs) && (↑(List.length t) : Int) == (↑(List.length (asNs (pNs t))) : Int) && 0 == 0 && Option.isSome (nextQ (asNs (pNs t)) s (asL (pL xs))))
          (some ((IV.tup [IV.cv (CV.pv (PV.sl (List.length (Option.getD (Option.map NodeT.subs (nextQ (asNs (pNs t)) s (asL (pL xs)))) [])) (List.map PV.str (Option.getD (Option.map NodeT.subs (nextQ (asNs (pNs t)) s (asL (pL xs)))) [])))), IV.cv (CV.pv (PV.bool true))], [])))
          (brC (isNs (pNs t) && isL (pL xs) && (↑(List.length t) : Int) == (↑(List.length (asNs (pNs t))) : Int) && 0 == 0)
            (some ((IV.tup [IV.cv (CV.pv PV.nils), IV.cv (CV.pv (PV.bool false))], [])))
            (none))))
      (none)))
  (none) := by kernel_rfl
theorem r_QueryOf_eq (t : List NodeT) (s : ByteArray) (xs : List ByteArray) (i : Int) : r_QueryOf brC t s xs i =
 brC (decide (i < (↑(List.length t) : Int)))
  (brC (decide (0 ≤ i) && decide (i < (↑(List.length t) : Int)))
    (brC (Nat.ble 3 (List.length (List.drop (Int.toNat i * 3) (encN t))) && (PV.isStr (List.headD (List.drop (Int.toNat i * 3) (encN t)) PV.nilp) && (PV.isSl (List.headD (List.tail (List.drop (Int.toNat i * 3) (encN t))) PV.nilp) && (PV.isStr (List.headD (List.tail (List.tail (List.drop (Int.toNat i * 3) (encN t)))) PV.nilp) && true && true) && true) && true) && true)
      (brC (ByteArray.toList (PV.asStr (List.headD (List.drop (Int.toNat i * 3) (encN t)) PV.nilp)) == ByteArray.toList s)
        (brC (isL (PV.sl (List.length xs) (List.map PV.str xs)) && isL (PV.sl (PV.slN (List.headD (List.tail (List.drop (Int.toNat i * 3) (encN t))) PV.nilp)) (PV.slL (List.headD (List.tail (List.drop (Int.toNat i * 3) (encN t))) PV.nilp))))
          (brC (subsLt (asL (PV.sl (List.length xs) (List.map PV.str xs))) (asL (PV.sl (PV.slN (List.headD (List.tail (List.drop (Int.toNat i * 3) (encN t))) PV.nilp)) (PV.slL (List.headD (List.tail (List.drop (Int.toNat i * 3) (encN t))) PV.nilp)))))
            (brC (isL (PV.sl (PV.slN (List.headD (List.tail (List.drop (Int.toNat i * 3) (encN t))) PV.nilp)) (PV.slL (List.headD (List.tail (List.drop (Int.toNat i * 3) (encN t))) PV.nilp))))
              (some (Sum.inr (Ex.ret, [(AV.pv (PV.sl (PV.slN (List.headD (List.tail (List.drop (Int.toNat i * 3) (encN t))) PV.nilp)) (PV.slL (List.headD (List.tail (List.drop (Int.toNat i * 3) (encN t))) PV.nilp))), none), (AV.pv (PV.bool true), none)])))
              (none))
            (some (Sum.inl [(AV.pv (PV.str s), none), (AV.pv (PV.sl (List.length xs) (List.map PV.str xs)), none), (AV.pv (PV.sl (List.length t) (encN t)), none), (AV.pv (PV.int IntKind.i64 (↑(List.length t) : Int)), none), (AV.pv (PV.int IntKind.i64 (IntKind.wrap IntKind.i64 (i + 1))), none)])))
          (none))
        (some (Sum.inl [(AV.pv (PV.str s), none), (AV.pv (PV.sl (List.length xs) (List.map PV.str xs)), none), (AV.pv (PV.sl (List.length t) (encN t)), none), (AV.pv (PV.int IntKind.i64 (↑(List.length t) : Int)), none), (AV.pv (PV.int IntKind.i64 (IntKind.wrap IntKind.i64 (i + 1))), none)])))
      (none))
    (none))
  (some (Sum.inr (Ex.exit 0, [(AV.bad, none), (AV.bad, none)]))) := by kernel_rfl
theorem q_drawQuery_eq (n : Nat) (l : List PV) : q_drawQuery brC n l =
 brC (wfB n l && decide (n ≤ 1048576))
  (some ((IV.tup [IV.agg [CV.pv (PV.sl (List.length (gnT n l)) (encN (gnT n l)))], IV.cv (CV.pv (PV.str (Prod.fst (gnW n l)))), IV.cv (CV.pv (PV.sl (List.length (Prod.snd (gnW n l))) (List.map PV.str (Prod.snd (gnW n l)))))], [])))
  (none) := by kernel_rfl
end

section
open Go.RowKit
set_option linter.unusedVariables false
set_option linter.unusedSimpArgs false
set_option maxRecDepth 100000

/-- What is known of a drawn tree and a drawn place. -/
theorem gn_facts {n : Nat} {l : List PV} (hw : wfB n l = true) (hn : n ≤ 1048576) : (treeV n l 0).2 ≤ 200 ∧ treeR (treeV n l 0).1 ∧ whR (gnW n l) := by
  obtain ⟨_, h2, h3, _⟩ := drawV_ok tree_draw hw hn (k := 0) (by omega)
  have h2' : (treeV n l 0).2 ≤ 0 + 200 := h2
  obtain ⟨_, _, h6, _⟩ := drawV_ok (where_draw h3.1 h3.2.1 h3.2.2.1) hw hn (k := (treeV n l 0).2) (by omega)
  exact ⟨by omega, h3, h6⟩
theorem ok_getNode0 : EntryOk Tryz.prog 81 E_getNode0 := entry_of mix ok_xab (lp := lp_getNode) (LO := LO0) ⟨Tryz.func81, by kernel_rfl, by kernel_rfl⟩ (by kernel_rfl) fun ivs res bxs h => by
  unfold E_getNode0 at h
  split at h
  · rename_i n l
    have tree := q_getNode_eq n l
    rcases pick2 h with ⟨hc, he⟩ | ⟨hc0, hc, he⟩
    · cases he
      simp only [Bool.and_eq_true, decide_eq_true_eq] at hc
      obtain ⟨⟨hw, hn⟩, hnil⟩ := hc
      obtain ⟨h2, h3, h4⟩ := gn_facts hw hn
      have s0 : srcOk n l 0 0 = true := srcOk_mk (k := 0) hw (by omega) hn
      have s1 := srcOk_mk (k := (treeV n l 0).2) hw (by omega) hn
      have e : (treeV n l 0).1.2 = [] := h3.2.2.2 hnil
      have i1 : isT (PV.agg [PV.sl 0 []]) = true := isT_mk shT_nil
      have i2 : asT (PV.agg [PV.sl 0 []]) = [] := asT_mk []
      have i3 : holds (([] : List NodeT).length ≤ 200 ∧ few []) = true := holds_mk ⟨by simp, few_nil⟩
      refine ⟨noLoop (by kernel_rfl), tree.trans ?_⟩
      dsimp only [gnT, gnW]
      rw [i1, i2, i3, s0, s1, hnil, e, dT (show ((treeV n l 0).2 : Int) ≤ 400000 by omega), Int.toNat_natCast, dT (show (0 : Nat) ≤ 400000 by omega)]
      rfl
    · cases he
      simp only [Bool.and_eq_true, decide_eq_true_eq] at hc
      obtain ⟨hw, hn⟩ := hc
      obtain ⟨h2, h3, h4⟩ := gn_facts hw hn
      rw [hw, dT hn] at hc0
      have hnil : (treeV n l 0).1.1 = false := hc0
      have s0 : srcOk n l 0 0 = true := srcOk_mk (k := 0) hw (by omega) hn
      have s1 := srcOk_mk (k := (treeV n l 0).2) hw (by omega) hn
      have i1 := isT_mk h3.1
      have i2 := asT_mk (treeV n l 0).1.2
      have i3 : holds ((treeV n l 0).1.2.length ≤ 200 ∧ few (treeV n l 0).1.2) = true := holds_mk ⟨h3.2.1, h3.2.2.1⟩
      refine ⟨noLoop (by kernel_rfl), tree.trans ?_⟩
      dsimp only [gnT, gnW]
      unfold isT asT
      rw [i1, i2, i3, s0, s1, hnil, dT (show ((treeV n l 0).2 : Int) ≤ 400000 by omega), Int.toNat_natCast, dT (show (0 : Nat) ≤ 400000 by omega)]
      rfl
  · cases h
theorem ok_getNode : EntryOk Tryz.prog 81 E_getNode := ⟨ok_getNode0.1, fun ivs res bxs h => by
  unfold E_getNode at h
  split at h
  · rename_i n l
    obtain ⟨hc, he⟩ := pick1 h
    cases he
    have hc' := hc
    simp only [Bool.and_eq_true, decide_eq_true_eq] at hc'
    obtain ⟨h2, h3, h4⟩ := gn_facts hc'.1 hc'.2
    cases hnil : (treeV n l 0).1.1 with
    | true =>
      have e : gnT n l = [] := h3.2.2.2 hnil
      have := (ok_getNode0.2 [cP (.sl n l)] _ _ (show pickA (E_getNode0 [cP (.sl n l)]) = some (.tup [.agg [.pv .nils], cS (gnW n l).1, lS (gnW n l).2.length ((gnW n l).2.map .str)], []) by
        unfold E_getNode0
        dsimp only [pickA]
        rw [hc, hnil]
        rfl)).frz
      unfold gnRes
      unfold pNs
      rw [e]
      exact this
    | false =>
      exact (ok_getNode0.2 [cP (.sl n l)] _ _ (show pickA (E_getNode0 [cP (.sl n l)]) = some (.tup [.agg [.lst 3 63 (gnT n l).length (encN (gnT n l)) false], cS (gnW n l).1, lS (gnW n l).2.length ((gnW n l).2.map .str)], []) by
        unfold E_getNode0
        dsimp only [pickA]
        rw [hc, hnil]
        rfl)).frz
  · cases h⟩
theorem ok_yab : EntriesOk Tryz.prog yab := ⟨ok_getNode, trivial⟩
theorem ok_drawQuery : EntryOk Tryz.prog 35 E_getNode := entry_of mix ok_yab (lp := []) (LO := LO0) ⟨Tryz.func35, by kernel_rfl, by kernel_rfl⟩ (by kernel_rfl) fun ivs res bxs h => by
  unfold E_getNode at h
  split at h
  · rename_i n l
    obtain ⟨hc, he⟩ := pick1 h
    cases he
    refine ⟨noLoop (by kernel_rfl), (q_drawQuery_eq n l).trans ?_⟩
    rw [hc]
    rfl
  · cases h
/-- A list of texts, copied. -/
theorem strs_ofP {w : World} {com : Nat → Nat} : ∀ {cs : List Value} {xs : List ByteArray}, PReps w com cs (xs.map PV.str) → cs = xs.map Value.string
  | [], [], _ => rfl
  | [], _ :: _, h => by have := h.1; simp at this
  | _ :: _, [], h => by have := h.1; simp at this
  | c :: cs, x :: xs, h => by
    obtain ⟨v, vs, he, h1, h2⟩ := PReps.of_cons h
    cases he
    rw [List.map_cons, strs_ofP h2]
    cases h1
    rfl
theorem reps_strs (w : World) (com : Nat → Nat) : ∀ xs : List ByteArray, PReps w com (xs.map Value.string) (xs.map PV.str)
  | [] => PReps.nil _ _
  | x :: xs => .cons (.str x) (reps_strs w com xs)
theorem one_strs (xs : List ByteArray) : ∀ u ∈ xs.map Value.string, u.oneCell' = true := fun u hu => by
  obtain ⟨x, _, rfl⟩ := List.mem_map.1 hu
  rfl
theorem ok_ClonS : EntryOk Tryz.prog 85 E_ClonS := ⟨⟨_, Tryz.func85, by kernel_rfl, by kernel_rfl⟩, fun ivs res bxs h => by
  unfold E_ClonS at h
  split at h
  · rename_i p
    obtain ⟨hc, he⟩ := pick1 h
    cases he
    obtain ⟨xs, rfl, hx⟩ := isL_inv hc
    refine (contract_new (ps := [pL xs]) (k := 1) (e := 9) (n := xs.length) (l := xs.map .str) fun w com vals hv hfr => ?_).frz
    obtain ⟨v, vs, rfl, hv1, hn1⟩ := hv.of_cons
    rw [hn1.of_nil]
    generalize hp : pL xs = p at hv1
    cases hv1 with
    | sl0 a cap =>
      have : xs = [] := by
        unfold pL at hp
        injection hp with h1 h2
        exact List.length_eq_zero_iff.1 h1
      subst this
      cases a with
      | none =>
        refine (Tryz.slices_Clone_string_nil 0 cap w).mono ?_
        rintro e w' ⟨rfl, rfl⟩
        exact ⟨_, [], rfl, World.ownsRow_nil _ _ _ _, PReps.nil _ _, (fun _ h => (List.not_mem_nil h).elim), Below.refl _ _⟩
      | some a =>
        refine (Tryz.slices_Clone_string_zero a cap w).mono ?_
        rintro e w' ⟨v', rfl, ho, _, hb⟩
        exact ⟨_, [], rfl, ho, PReps.nil _ _, (fun _ h => (List.not_mem_nil h).elim), hb⟩
    | sl b off n cap cs l hnc hl h1 hcm hm hee =>
      unfold pL at hp
      injection hp with hp1 hp2
      subst hp1
      subst hp2
      have hcs := strs_ofP ⟨hl, hee⟩
      subst hcs
      have hxl := hx.1
      refine (Tryz.slices_Clone_string b off xs.length cap xs w (Nat.le_refl _) (by omega) fun j hj => ?_).mono ?_
      · have := hm j (.string xs[j]) (by rw [List.getElem?_map, List.getElem?_eq_getElem hj]; rfl)
        rw [this, List.getD_eq_getElem?_getD, List.getElem?_eq_getElem hj]
        rfl
      · rintro e w' ⟨v', rfl, ho, _, hb⟩
        rw [List.take_length] at ho
        exact ⟨v', _, rfl, ho, reps_strs _ _ _, one_strs _, hb⟩
    | _ => cases hp
  · cases h⟩
theorem ok_iab9 : EntriesOk Tryz.prog iab9 := ⟨ok_ClonS, ok_ITreeOk, ok_ISubsBefore, ok_iab8⟩
theorem QueryOf_loop (t : List NodeT) (h : shT t) (s : ByteArray) (xs : List ByteArray) (hx : shL xs) : ∀ (m i : Nat), m + i = t.length → LoopsTo (rdB brC Tryz.prog iab9 lp_QueryOf LO_QueryOf Tryz.f37 4 []) [aS s, aP (pL xs), aP (pNs t), aI t.length, aI i] (match (t.drop i).find? (fun x => sEq x.name s && subsLt xs x.subs) with | some x => (.ret, [aP (pL x.subs), aB true]) | none => (.exit 0, [aX, aX])) := by
  have hl := h.1
  intro m
  induction m with
  | zero =>
    intro i hm
    obtain rfl : i = t.length := by omega
    rw [List.drop_length]
    refine .done _ _ ((r_QueryOf_eq t s xs t.length).trans ?_)
    rw [dF (by omega)]
    rfl
  | succ m ih =>
    intro i hm
    have hi : i < t.length := by omega
    have hs := shN_at h hi
    have ih' := ih (i + 1) (by omega)
    rw [List.drop_eq_getElem_cons hi, List.find?_cons]
    have tree := r_QueryOf_eq t s xs i
    simp (disch := omega) only [dT, Int.toNat_natCast, drop_encN t i hi, List.length_cons, List.headD_cons, List.tail_cons, PV.isStr, PV.asStr, PV.isSl, PV.slN, PV.slL, ble3, wrap1, Bool.and_true, isL_mk hx, isL_mk hs.2.1, asL_mk] at tree
    cases hn : sEq t[i].name s with
    | false =>
      have hn' : (t[i].name.toList == s.toList) = false := hn
      rw [hn'] at tree
      simp only [Bool.false_and]
      exact .step _ _ _ tree ih'
    | true =>
      have hn' : (t[i].name.toList == s.toList) = true := hn
      rw [hn'] at tree
      simp only [Bool.true_and]
      cases hb : subsLt xs t[i].subs with
      | false =>
        rw [hb] at tree
        exact .step _ _ _ tree ih'
      | true =>
        rw [hb] at tree
        exact .done _ _ tree
noncomputable def E_QueryOf : Entry := fun ivs => match ivs with
  | [.cv (.pv p), .cv (.pv (.str s)), .cv (.pv q)] =>
    [(isT p && decide (s.size ≤ 1000000) && isL q && (treeB (asT p) && placeB s (asL q) && (nextQ (asT p) s (asL q)).isSome), .tup [cP (pL (((nextQ (asT p) s (asL q)).map NodeT.subs).getD [])), cB true], []),
     (isT p && decide (s.size ≤ 1000000) && isL q, .tup [cP .nils, cB false], [])]
  | _ => []
theorem ok_QueryOf : EntryOk Tryz.prog 37 E_QueryOf := entry_of mix ok_iab9 (lp := lp_QueryOf) (LO := LO_QueryOf) ⟨Tryz.func37, by kernel_rfl, by kernel_rfl⟩ (by kernel_rfl) fun ivs res bxs h => by
  unfold E_QueryOf at h
  split at h
  · rename_i p s q
    cases hg : (isT p && decide (s.size ≤ 1000000) && isL q) with
    | false => rw [hg] at h; simp only [pickA, Bool.false_and, cond_false] at h; cases h
    | true =>
      rw [hg, Bool.true_and] at h
      simp only [Bool.and_eq_true, decide_eq_true_eq] at hg
      obtain ⟨⟨h1, hsz⟩, h3⟩ := hg
      obtain ⟨t, rfl, ht⟩ := isE_inv h1
      obtain ⟨xs, rfl, hx⟩ := isL_inv h3
      simp only [asT_mk, asL_mk] at h
      refine ⟨oneLoop 4 (by kernel_rfl) (by kernel_rfl) (by kernel_rfl) ?_, (q_QueryOf_eq t s xs).trans ?_⟩
      · intro ls e ls' hl
        unfold LO_QueryOf at hl
        split at hl
        · rename_i s q p n i
          cases hg : (isNs p && isL q && (n == ((asNs p).length : Int)) && (i == 0)) with
          | false => rw [hg] at hl; simp only [pickA, Bool.false_and, cond_false] at hl; cases hl
          | true =>
            rw [hg, Bool.true_and] at hl
            simp only [Bool.and_eq_true, beq_iff_eq] at hg
            obtain ⟨⟨⟨g1, g2⟩, g3⟩, g4⟩ := hg
            obtain ⟨u, rfl, hu⟩ := isE_inv g1
            obtain ⟨ys, rfl, hy⟩ := isL_inv g2
            simp only [asNs_mk, asL_mk] at hl g3
            rw [g3, g4]
            have := QueryOf_loop u hu s ys hy u.length 0 (by omega)
            rw [List.drop_zero] at this
            unfold nextQ at hl
            cases hf : u.find? (fun x => sEq x.name s && subsLt ys x.subs) with
            | none => rw [hf] at hl this; cases hl; exact this
            | some x => rw [hf] at hl this; cases hl; exact this
        · cases hl
      · have e1 := isT_mk ht
        have e2 := isL_mk hx
        have e3 := isNs_mk ht
        simp only [e1, e2, e3, isT, isNs, asT_mk, asNs_mk, asL_mk, dT hsz, beq_self_eq_true, Bool.and_true, Bool.true_and]
        cases hT : treeB t with
        | false => rw [hT] at h; cases h; rfl
        | true =>
          cases hP : placeB s xs with
          | false => rw [hT, hP] at h; cases h; rfl
          | true =>
            cases hN : nextQ t s xs with
            | none => rw [hT, hP, hN] at h; cases h; rfl
            | some x => rw [hT, hP, hN] at h; cases h; rfl
  · cases h
end

section
open Go.RowKit
set_option linter.unusedVariables false

def E_b10Long : Entry := fun ivs => match ivs with
  | [.cv (.pv (.sl n l)), .cv (.pv (.sl m k))] => [(true, cB (decide ((n : Int) > 1048576) || decide ((m : Int) > 1048576)), [])]
  | _ => []
noncomputable def q_b10Long (br : Br) (n : Nat) (l : List PV) (m : Nat) (k : List PV) := evB br Tryz.prog [] [] LO0 Tryz.f26 [cP (.sl n l), cP (.sl m k)]
noncomputable def lab0 : List (FuncId × Entry) := (26, E_b10Long) :: (35, E_getNode) :: (37, E_QueryOf) :: sab5
abbrev lp_tq : List (Nat × List Nat × List Nat) := [(8, [5, 6, 8, 9], [5, 6, 8]), (14, [5, 6, 8, 10, 11], [4, 5, 6, 10])]
noncomputable def LO_tq : LoopT := fun k ls => match k, ls with
  | 8, [(.ptr x 0, some (.box [.pv p])), (.pv (.str s), none), (.own y, some (.lst 3 e n l false)), (.pv (.int .i64 i), none)] =>
    [(isNs p && (i == 0) && Nat.beq x 20480 && Nat.beq y 32768 && Nat.beq e 63 && Nat.beq n 0 && nilB l, .exit 0, [aBx 5 [.pv p], aS s, aL 8 3 63 (ownT s (asNs p)).length (encN (ownT s (asNs p)))])]
  | 14, [(.ptr x 0, some (.box [.pv p])), (.pv (.str s), none), (.own y, some (.lst 3 e n l false)), (.own z, some (.lst 1 e' n' l' false)), (.pv (.int .i64 i), none)] =>
    [(isNs p && (i == 0) && Nat.beq x 20480 && Nat.beq y 32768 && Nat.beq z 40960 && Nat.beq e 63 && Nat.beq e' 9 && Nat.beq n' 0 && nilB l' && treeB (asNs p) && nameB s && decide (s.size ≤ 1000000) && Nat.beq n (ownT s (asNs p)).length && holds (l = encN (ownT s (asNs p))) && Nat.beq n 0,
      .exit 2, [aX, aBx 5 [.pv p], aS s, aL 10 1 9 0 []]),
     (isNs p && (i == 0) && Nat.beq x 20480 && Nat.beq y 32768 && Nat.beq z 40960 && Nat.beq e 63 && Nat.beq e' 9 && Nat.beq n' 0 && nilB l' && treeB (asNs p) && nameB s && decide (s.size ≤ 1000000) && Nat.beq n (ownT s (asNs p)).length && holds (l = encN (ownT s (asNs p))),
      .exit 2, [aX, aBx 5 [.pv p], aS s, aP (pL (atQ (ownT s (asNs p)) n))])]
  | _, _ => []
noncomputable def r_tqOwn (br : Br) (t : List NodeT) (s : ByteArray) (n : Nat) (l : List PV) (i : Int) := rdB br Tryz.prog lab0 lp_tq LO_tq Tryz.f6 8 [] [aBx 5 [.pv (pNs t)], aS s, aL 8 3 63 n l, aI i]
noncomputable def r_tqGo0 (br : Br) (t : List NodeT) (s : ByteArray) (n : Nat) (l : List PV) (i : Int) := rdB br Tryz.prog lab0 lp_tq LO_tq Tryz.f6 14 [] [aBx 5 [.pv (pNs t)], aS s, aL 8 3 63 n l, aL 10 1 9 0 [], aI i]
noncomputable def r_tqGo (br : Br) (t : List NodeT) (s : ByteArray) (n : Nat) (l : List PV) (xs : List ByteArray) (i : Int) := rdB br Tryz.prog lab0 lp_tq LO_tq Tryz.f6 14 [] [aBx 5 [.pv (pNs t)], aS s, aL 8 3 63 n l, aP (pL xs), aI i]
noncomputable def q_tq (br : Br) (n : Nat) (l : List PV) (m : Nat) (k : List PV) := evB br Tryz.prog lab0 lp_tq LO_tq Tryz.f6 [cP (.sl n l), cP (.sl m k)]
end

section
set_option linter.unusedVariables false
set_option maxRecDepth 100000
theorem r_tqGo0_eq (t : List NodeT) (s : ByteArray) (n : Nat) (l : List PV) (i : Int) : r_tqGo0 brC t s n l i =
 brC (decide (i < (↑n : Int)))
  (brC (isT (PV.agg [PV.sl (List.length t) (encN t)]) && decide (ByteArray.size s ≤ 1000000) && isL (PV.sl 0 []) && (treeB (asT (PV.agg [PV.sl (List.length t) (encN t)])) && placeB s (asL (PV.sl 0 [])) && Option.isSome (nextQ (asT (PV.agg [PV.sl (List.length t) (encN t)])) s (asL (PV.sl 0 [])))))
    (brC (decide (0 ≤ i) && decide (i < (↑n : Int)))
      (brC (Nat.blt 0 (List.length (List.drop 1 (List.drop (Int.toNat i * 3) l))) && PV.isSl (List.headD (List.drop 1 (List.drop (Int.toNat i * 3) l)) PV.nilp) && true)
        (brC (isL (PV.sl (List.length (Option.getD (Option.map NodeT.subs (nextQ (asT (PV.agg [PV.sl (List.length t) (encN t)])) s (asL (PV.sl 0 [])))) [])) (List.map PV.str (Option.getD (Option.map NodeT.subs (nextQ (asT (PV.agg [PV.sl (List.length t) (encN t)])) s (asL (PV.sl 0 [])))) []))) && isL (PV.sl (PV.slN (List.headD (List.drop 1 (List.drop (Int.toNat i * 3) l)) PV.nilp)) (PV.slL (List.headD (List.drop 1 (List.drop (Int.toNat i * 3) l)) PV.nilp))))
          (brC (!sameX (asL (PV.sl (List.length (Option.getD (Option.map NodeT.subs (nextQ (asT (PV.agg [PV.sl (List.length t) (encN t)])) s (asL (PV.sl 0 [])))) [])) (List.map PV.str (Option.getD (Option.map NodeT.subs (nextQ (asT (PV.agg [PV.sl (List.length t) (encN t)])) s (asL (PV.sl 0 [])))) [])))) (asL (PV.sl (PV.slN (List.headD (List.drop 1 (List.drop (Int.toNat i * 3) l)) PV.nilp)) (PV.slL (List.headD (List.drop 1 (List.drop (Int.toNat i * 3) l)) PV.nilp)))))
            (some (Sum.inr (Ex.ret, [(AV.pv (PV.bool false), none), (AV.ptr 20480 0, some (Ob.box [CV.pv (PV.sl (List.length t) (encN t))])), (AV.pv (PV.str s), none), (AV.own 40960, some (Ob.lst 1 9 0 [] false))])))
            (some (Sum.inl [(AV.ptr 20480 0, some (Ob.box [CV.pv (PV.sl (List.length t) (encN t))])), (AV.pv (PV.str s), none), (AV.own 32768, some (Ob.lst 3 63 n l false)), (AV.pv (PV.sl (List.length (Option.getD (Option.map NodeT.subs (nextQ (asT (PV.agg [PV.sl (List.length t) (encN t)])) s (asL (PV.sl 0 [])))) [])) (List.map PV.str (Option.getD (Option.map NodeT.subs (nextQ (asT (PV.agg [PV.sl (List.length t) (encN t)])) s (asL (PV.sl 0 [])))) []))), none), (AV.pv (PV.int IntKind.i64 (IntKind.wrap IntKind.i64 (i + 1))), none)])))
          (none))
        (none))
      (none))
    (brC (isT (PV.agg [PV.sl (List.length t) (encN t)]) && decide (ByteArray.size s ≤ 1000000) && isL (PV.sl 0 []))
      (some (Sum.inr (Ex.ret, [(AV.pv (PV.bool false), none), (AV.ptr 20480 0, some (Ob.box [CV.pv (PV.sl (List.length t) (encN t))])), (AV.pv (PV.str s), none), (AV.own 40960, some (Ob.lst 1 9 0 [] false))])))
      (none)))
  (some (Sum.inr (Ex.exit 2, [(AV.bad, none), (AV.ptr 20480 0, some (Ob.box [CV.pv (PV.sl (List.length t) (encN t))])), (AV.pv (PV.str s), none), (AV.own 40960, some (Ob.lst 1 9 0 [] false))]))) := by kernel_rfl
theorem q_b10Long_eq (n : Nat) (l : List PV) (m : Nat) (k : List PV) : q_b10Long brC n l m k =
 brC (decide ((↑n : Int) > 1048576))
  (some ((IV.cv (CV.pv (PV.bool true)), [])))
  (some ((IV.cv (CV.pv (PV.bool (decide ((↑m : Int) > 1048576)))), []))) := by kernel_rfl
theorem r_tqOwn_eq (t : List NodeT) (s : ByteArray) (n : Nat) (l : List PV) (i : Int) : r_tqOwn brC t s n l i =
 brC (decide (i < (↑(List.length t) : Int)))
  (brC (decide (0 ≤ i) && decide (i < (↑(List.length t) : Int)))
    (brC (Nat.blt 0 (List.length (List.drop 0 (List.drop (Int.toNat i * 3) (encN t)))) && PV.isStr (List.headD (List.drop 0 (List.drop (Int.toNat i * 3) (encN t))) PV.nilp) && true)
      (brC (ByteArray.toList (PV.asStr (List.headD (List.drop 0 (List.drop (Int.toNat i * 3) (encN t))) PV.nilp)) == ByteArray.toList s)
        (brC (decide (0 ≤ i) && decide (i < (↑(List.length t) : Int)))
          (brC (Nat.blt 0 (List.length (List.drop 1 (List.drop (Int.toNat i * 3) (encN t)))) && PV.isSl (List.headD (List.drop 1 (List.drop (Int.toNat i * 3) (encN t))) PV.nilp) && true)
            (brC (decide ((↑(PV.slN (List.headD (List.drop 1 (List.drop (Int.toNat i * 3) (encN t))) PV.nilp)) : Int) > 0))
              (brC (decide (0 ≤ i) && decide (i < (↑(List.length t) : Int)))
                (brC (Nat.ble 3 (List.length (List.drop (Int.toNat i * 3) (encN t))) && (PV.isStr (List.headD (List.drop (Int.toNat i * 3) (encN t)) PV.nilp) && (PV.isSl (List.headD (List.tail (List.drop (Int.toNat i * 3) (encN t))) PV.nilp) && (PV.isStr (List.headD (List.tail (List.tail (List.drop (Int.toNat i * 3) (encN t)))) PV.nilp) && true && true) && true) && true) && true)
                  (brC (Nat.beq (List.length [PV.str (PV.asStr (List.headD (List.drop (Int.toNat i * 3) (encN t)) PV.nilp)), PV.sl (PV.slN (List.headD (List.tail (List.drop (Int.toNat i * 3) (encN t))) PV.nilp)) (PV.slL (List.headD (List.tail (List.drop (Int.toNat i * 3) (encN t))) PV.nilp)), PV.str (PV.asStr (List.headD (List.tail (List.tail (List.drop (Int.toNat i * 3) (encN t)))) PV.nilp))]) (1 * 3) && (decide (n + 1 ≤ 140737488351232) && decide ((n + 1) * 56 ≤ 140737488355328)))
                    (some (Sum.inl [(AV.ptr 20480 0, some (Ob.box [CV.pv (PV.sl (List.length t) (encN t))])), (AV.pv (PV.str s), none), (AV.own 32768, some (Ob.lst 3 63 (n + 1) (l ++ [PV.str (PV.asStr (List.headD (List.drop (Int.toNat i * 3) (encN t)) PV.nilp)), PV.sl (PV.slN (List.headD (List.tail (List.drop (Int.toNat i * 3) (encN t))) PV.nilp)) (PV.slL (List.headD (List.tail (List.drop (Int.toNat i * 3) (encN t))) PV.nilp)), PV.str (PV.asStr (List.headD (List.tail (List.tail (List.drop (Int.toNat i * 3) (encN t)))) PV.nilp))]) false)), (AV.pv (PV.int IntKind.i64 (IntKind.wrap IntKind.i64 (i + 1))), none)]))
                    (none))
                  (none))
                (none))
              (some (Sum.inl [(AV.ptr 20480 0, some (Ob.box [CV.pv (PV.sl (List.length t) (encN t))])), (AV.pv (PV.str s), none), (AV.own 32768, some (Ob.lst 3 63 n l false)), (AV.pv (PV.int IntKind.i64 (IntKind.wrap IntKind.i64 (i + 1))), none)])))
            (none))
          (none))
        (some (Sum.inl [(AV.ptr 20480 0, some (Ob.box [CV.pv (PV.sl (List.length t) (encN t))])), (AV.pv (PV.str s), none), (AV.own 32768, some (Ob.lst 3 63 n l false)), (AV.pv (PV.int IntKind.i64 (IntKind.wrap IntKind.i64 (i + 1))), none)])))
      (none))
    (none))
  (some (Sum.inr (Ex.exit 0, [(AV.ptr 20480 0, some (Ob.box [CV.pv (PV.sl (List.length t) (encN t))])), (AV.pv (PV.str s), none), (AV.own 32768, some (Ob.lst 3 63 n l false))]))) := by kernel_rfl
theorem q_tq_eq (n : Nat) (l : List PV) (m : Nat) (k : List PV) : q_tq brC n l m k =
 brC (decide ((↑n : Int) > 1048576) || decide ((↑m : Int) > 1048576))
  (some ((IV.cv (CV.pv (PV.bool true)), [])))
  (brC (wfB n l && decide (n ≤ 1048576))
    (brC (isT (PV.agg [PV.sl (List.length (gnT n l)) (encN (gnT n l))]))
      (brC (!treeB (asT (PV.agg [PV.sl (List.length (gnT n l)) (encN (gnT n l))])))
        (some ((IV.cv (CV.pv (PV.bool true)), [])))
        (brC (decide (ByteArray.size (Prod.fst (gnW n l)) ≤ 1000000))
          (brC (!nameB (Prod.fst (gnW n l)))
            (some ((IV.cv (CV.pv (PV.bool true)), [])))
            (brC (isNs (pNs (gnT n l)) && 0 == 0 && Nat.beq 20480 20480 && Nat.beq 32768 32768 && Nat.beq 63 63 && Nat.beq 0 0 && nilB [])
              (brC (isNs (pNs (gnT n l)) && 0 == 0 && Nat.beq 20480 20480 && Nat.beq 32768 32768 && Nat.beq 40960 40960 && Nat.beq 63 63 && Nat.beq 9 9 && Nat.beq 0 0 && nilB [] && treeB (asNs (pNs (gnT n l))) && nameB (Prod.fst (gnW n l)) && decide (ByteArray.size (Prod.fst (gnW n l)) ≤ 1000000) && Nat.beq (List.length (ownT (Prod.fst (gnW n l)) (asNs (pNs (gnT n l))))) (List.length (ownT (Prod.fst (gnW n l)) (asNs (pNs (gnT n l))))) && holds (encN (ownT (Prod.fst (gnW n l)) (asNs (pNs (gnT n l)))) = encN (ownT (Prod.fst (gnW n l)) (asNs (pNs (gnT n l))))) && Nat.beq (List.length (ownT (Prod.fst (gnW n l)) (asNs (pNs (gnT n l))))) 0)
                (brC (isT (PV.agg [PV.sl (List.length (gnT n l)) (encN (gnT n l))]) && decide (ByteArray.size (Prod.fst (gnW n l)) ≤ 1000000) && isL (PV.sl 0 []) && (treeB (asT (PV.agg [PV.sl (List.length (gnT n l)) (encN (gnT n l))])) && placeB (Prod.fst (gnW n l)) (asL (PV.sl 0 [])) && Option.isSome (nextQ (asT (PV.agg [PV.sl (List.length (gnT n l)) (encN (gnT n l))])) (Prod.fst (gnW n l)) (asL (PV.sl 0 [])))))
                  (some ((IV.cv (CV.pv (PV.bool false)), [])))
                  (brC (isT (PV.agg [PV.sl (List.length (gnT n l)) (encN (gnT n l))]) && decide (ByteArray.size (Prod.fst (gnW n l)) ≤ 1000000) && isL (PV.sl 0 []))
                    (some ((IV.cv (CV.pv (PV.bool true)), [])))
                    (none)))
                (brC (isNs (pNs (gnT n l)) && 0 == 0 && Nat.beq 20480 20480 && Nat.beq 32768 32768 && Nat.beq 40960 40960 && Nat.beq 63 63 && Nat.beq 9 9 && Nat.beq 0 0 && nilB [] && treeB (asNs (pNs (gnT n l))) && nameB (Prod.fst (gnW n l)) && decide (ByteArray.size (Prod.fst (gnW n l)) ≤ 1000000) && Nat.beq (List.length (ownT (Prod.fst (gnW n l)) (asNs (pNs (gnT n l))))) (List.length (ownT (Prod.fst (gnW n l)) (asNs (pNs (gnT n l))))) && holds (encN (ownT (Prod.fst (gnW n l)) (asNs (pNs (gnT n l)))) = encN (ownT (Prod.fst (gnW n l)) (asNs (pNs (gnT n l))))))
                  (brC (isT (PV.agg [PV.sl (List.length (gnT n l)) (encN (gnT n l))]) && decide (ByteArray.size (Prod.fst (gnW n l)) ≤ 1000000) && isL (PV.sl (List.length (atQ (ownT (Prod.fst (gnW n l)) (asNs (pNs (gnT n l)))) (List.length (ownT (Prod.fst (gnW n l)) (asNs (pNs (gnT n l))))))) (List.map PV.str (atQ (ownT (Prod.fst (gnW n l)) (asNs (pNs (gnT n l)))) (List.length (ownT (Prod.fst (gnW n l)) (asNs (pNs (gnT n l)))))))) && (treeB (asT (PV.agg [PV.sl (List.length (gnT n l)) (encN (gnT n l))])) && placeB (Prod.fst (gnW n l)) (asL (PV.sl (List.length (atQ (ownT (Prod.fst (gnW n l)) (asNs (pNs (gnT n l)))) (List.length (ownT (Prod.fst (gnW n l)) (asNs (pNs (gnT n l))))))) (List.map PV.str (atQ (ownT (Prod.fst (gnW n l)) (asNs (pNs (gnT n l)))) (List.length (ownT (Prod.fst (gnW n l)) (asNs (pNs (gnT n l))))))))) && Option.isSome (nextQ (asT (PV.agg [PV.sl (List.length (gnT n l)) (encN (gnT n l))])) (Prod.fst (gnW n l)) (asL (PV.sl (List.length (atQ (ownT (Prod.fst (gnW n l)) (asNs (pNs (gnT n l)))) (List.length (ownT (Prod.fst (gnW n l)) (asNs (pNs (gnT n l))))))) (List.map PV.str (atQ (ownT (Prod.fst (gnW n l)) (asNs (pNs (gnT n l)))) (List.length (ownT (Prod.fst (gnW n l)) (asNs (pNs (gnT n l))))))))))))
                    (some ((IV.cv (CV.pv (PV.bool false)), [])))
                    (brC (isT (PV.agg [PV.sl (List.length (gnT n l)) (encN (gnT n l))]) && decide (ByteArray.size (Prod.fst (gnW n l)) ≤ 1000000) && isL (PV.sl (List.length (atQ (ownT (Prod.fst (gnW n l)) (asNs (pNs (gnT n l)))) (List.length (ownT (Prod.fst (gnW n l)) (asNs (pNs (gnT n l))))))) (List.map PV.str (atQ (ownT (Prod.fst (gnW n l)) (asNs (pNs (gnT n l)))) (List.length (ownT (Prod.fst (gnW n l)) (asNs (pNs (gnT n l)))))))))
                      (some ((IV.cv (CV.pv (PV.bool true)), [])))
                      (none)))
                  (none)))
              (none)))
          (none)))
      (none))
    (none)) := by kernel_rfl
theorem r_tqGo_eq (t : List NodeT) (s : ByteArray) (n : Nat) (l : List PV) (xs : List ByteArray) (i : Int) : r_tqGo brC t s n l xs i =
 brC (decide (i < (↑n : Int)))
  (brC (isT (PV.agg [PV.sl (List.length t) (encN t)]) && decide (ByteArray.size s ≤ 1000000) && isL (PV.sl (List.length xs) (List.map PV.str xs)) && (treeB (asT (PV.agg [PV.sl (List.length t) (encN t)])) && placeB s (asL (PV.sl (List.length xs) (List.map PV.str xs))) && Option.isSome (nextQ (asT (PV.agg [PV.sl (List.length t) (encN t)])) s (asL (PV.sl (List.length xs) (List.map PV.str xs))))))
    (brC (decide (0 ≤ i) && decide (i < (↑n : Int)))
      (brC (Nat.blt 0 (List.length (List.drop 1 (List.drop (Int.toNat i * 3) l))) && PV.isSl (List.headD (List.drop 1 (List.drop (Int.toNat i * 3) l)) PV.nilp) && true)
        (brC (isL (PV.sl (List.length (Option.getD (Option.map NodeT.subs (nextQ (asT (PV.agg [PV.sl (List.length t) (encN t)])) s (asL (PV.sl (List.length xs) (List.map PV.str xs))))) [])) (List.map PV.str (Option.getD (Option.map NodeT.subs (nextQ (asT (PV.agg [PV.sl (List.length t) (encN t)])) s (asL (PV.sl (List.length xs) (List.map PV.str xs))))) []))) && isL (PV.sl (PV.slN (List.headD (List.drop 1 (List.drop (Int.toNat i * 3) l)) PV.nilp)) (PV.slL (List.headD (List.drop 1 (List.drop (Int.toNat i * 3) l)) PV.nilp))))
          (brC (!sameX (asL (PV.sl (List.length (Option.getD (Option.map NodeT.subs (nextQ (asT (PV.agg [PV.sl (List.length t) (encN t)])) s (asL (PV.sl (List.length xs) (List.map PV.str xs))))) [])) (List.map PV.str (Option.getD (Option.map NodeT.subs (nextQ (asT (PV.agg [PV.sl (List.length t) (encN t)])) s (asL (PV.sl (List.length xs) (List.map PV.str xs))))) [])))) (asL (PV.sl (PV.slN (List.headD (List.drop 1 (List.drop (Int.toNat i * 3) l)) PV.nilp)) (PV.slL (List.headD (List.drop 1 (List.drop (Int.toNat i * 3) l)) PV.nilp)))))
            (some (Sum.inr (Ex.ret, [(AV.pv (PV.bool false), none), (AV.ptr 20480 0, some (Ob.box [CV.pv (PV.sl (List.length t) (encN t))])), (AV.pv (PV.str s), none), (AV.pv (PV.sl (List.length xs) (List.map PV.str xs)), none)])))
            (some (Sum.inl [(AV.ptr 20480 0, some (Ob.box [CV.pv (PV.sl (List.length t) (encN t))])), (AV.pv (PV.str s), none), (AV.own 32768, some (Ob.lst 3 63 n l false)), (AV.pv (PV.sl (List.length (Option.getD (Option.map NodeT.subs (nextQ (asT (PV.agg [PV.sl (List.length t) (encN t)])) s (asL (PV.sl (List.length xs) (List.map PV.str xs))))) [])) (List.map PV.str (Option.getD (Option.map NodeT.subs (nextQ (asT (PV.agg [PV.sl (List.length t) (encN t)])) s (asL (PV.sl (List.length xs) (List.map PV.str xs))))) []))), none), (AV.pv (PV.int IntKind.i64 (IntKind.wrap IntKind.i64 (i + 1))), none)])))
          (none))
        (none))
      (none))
    (brC (isT (PV.agg [PV.sl (List.length t) (encN t)]) && decide (ByteArray.size s ≤ 1000000) && isL (PV.sl (List.length xs) (List.map PV.str xs)))
      (some (Sum.inr (Ex.ret, [(AV.pv (PV.bool false), none), (AV.ptr 20480 0, some (Ob.box [CV.pv (PV.sl (List.length t) (encN t))])), (AV.pv (PV.str s), none), (AV.pv (PV.sl (List.length xs) (List.map PV.str xs)), none)])))
      (none)))
  (some (Sum.inr (Ex.exit 2, [(AV.bad, none), (AV.ptr 20480 0, some (Ob.box [CV.pv (PV.sl (List.length t) (encN t))])), (AV.pv (PV.str s), none), (AV.pv (PV.sl (List.length xs) (List.map PV.str xs)), none)]))) := by kernel_rfl
end

section
open Go.RowKit
set_option linter.unusedVariables false
set_option linter.unusedSimpArgs false
set_option maxRecDepth 100000

theorem shL_nilq : shL [] := ⟨by simp, by simp⟩
theorem ok_b10Long : EntryOk Tryz.prog 26 E_b10Long := entry_of mix (tab := []) trivial (lp := []) (LO := LO0) ⟨Tryz.func26, by kernel_rfl, by kernel_rfl⟩ (by kernel_rfl) fun ivs res bxs h => by
  unfold E_b10Long at h
  split at h
  · rename_i n l m k
    cases h
    refine ⟨noLoop (by kernel_rfl), (q_b10Long_eq n l m k).trans ?_⟩
    cases decide ((n : Int) > 1048576) <;> rfl
  · cases h
theorem ok_lab0 : EntriesOk Tryz.prog lab0 := ⟨ok_b10Long, ok_drawQuery, ok_QueryOf, ok_sab5⟩
theorem tqOwn_loop (t : List NodeT) (h : shT t) (s : ByteArray) : ∀ (m i : Nat), m + i = t.length → LoopsTo (rdB brC Tryz.prog lab0 lp_tq LO_tq Tryz.f6 8 [])
    [aBx 5 [.pv (pNs t)], aS s, aL 8 3 63 (ownT s (t.take i)).length (encN (ownT s (t.take i))), aI i] (.exit 0, [aBx 5 [.pv (pNs t)], aS s, aL 8 3 63 (ownT s t).length (encN (ownT s t))]) := by
  have hl := h.1
  intro m
  induction m with
  | zero =>
    intro i hm
    obtain rfl : i = t.length := by omega
    refine .done _ _ ((r_tqOwn_eq t s _ _ t.length).trans ?_)
    rw [dF (by omega), List.take_length]
    rfl
  | succ m ih =>
    intro i hm
    have hi : i < t.length := by omega
    have hs := shN_at h hi
    have ih' := ih (i + 1) (by omega)
    have hlk : (ownT s (t.take i)).length ≤ 100000 := Nat.le_trans (List.length_filter_le _ _) (by rw [List.length_take]; omega)
    have tree := r_tqOwn_eq t s (ownT s (t.take i)).length (encN (ownT s (t.take i))) i
    have b3 : ∀ (x y z : PV), Nat.beq (List.length [x, y, z]) (1 * 3) = true := fun _ _ _ => rfl
    simp (disch := omega) only [dT, b3, Int.toNat_natCast, drop_encN t i hi, List.drop_zero, List.drop_succ_cons, List.length_cons, List.length_nil, List.headD_cons, List.tail_cons, PV.isStr, PV.asStr, PV.isSl, PV.slN, PV.slL, ble3, blt0, wrap1, Bool.and_true] at tree
    have ek : ownT s (t.take (i + 1)) = ownT s (t.take i) ++ (if ownB s t[i] = true then [t[i]] else []) := by
      unfold ownT
      rw [List.take_succ_eq_append_getElem hi, List.filter_append]
      congr 1
      rw [List.filter_cons]
      rfl
    rw [ek] at ih'
    cases hn : sEq t[i].name s with
    | false =>
      have hn' : (t[i].name.toList == s.toList) = false := hn
      have ho : ownB s t[i] = false := by unfold ownB; rw [hn]; rfl
      rw [hn'] at tree
      rw [ho, if_neg Bool.false_ne_true, List.append_nil] at ih'
      exact .step _ _ _ tree ih'
    | true =>
      have hn' : (t[i].name.toList == s.toList) = true := hn
      rw [hn'] at tree
      by_cases h0 : 0 < t[i].subs.length
      · have ho : ownB s t[i] = true := by unfold ownB; rw [hn, dT h0]; rfl
        rw [dT (show (t[i].subs.length : Int) > 0 by omega)] at tree
        rw [ho, if_pos rfl, encN_app, List.length_append, List.length_singleton] at ih'
        exact .step _ _ _ tree ih'
      · have ho : ownB s t[i] = false := by unfold ownB; rw [hn, dF h0]; rfl
        rw [dF (show ¬ (t[i].subs.length : Int) > 0 by omega)] at tree
        rw [ho, if_neg Bool.false_ne_true, List.append_nil] at ih'
        exact .step _ _ _ tree ih'
theorem atQ_sh {s : ByteArray} {t : List NodeT} (h : shT t) (i : Nat) : shL (atQ (ownT s t) i) := by
  unfold atQ
  split
  · exact shL_nilq
  · cases ho : (ownT s t)[i - 1]? with
    | none => exact shL_nilq
    | some x => exact (h.2 x (ownT_mem (List.mem_of_getElem? ho))).2.1
theorem atQ_succ {o : List NodeT} {i : Nat} (hi : i < o.length) : atQ o (i + 1) = o[i].subs := by
  unfold atQ
  rw [if_neg (by omega), Nat.add_sub_cancel, List.getElem?_eq_getElem hi]
  rfl
/-- The list of the walk, at the start and later. -/
def atA (o : List NodeT) (i : Nat) : AV × Option Ob := if i = 0 then aL 10 1 9 0 [] else aP (pL (atQ o i))
theorem tqGo_loop (t : List NodeT) (h : shT t) (hB : treeB t = true) (s : ByteArray) (hsz : s.size ≤ 1000000) (hN : nameB s = true) : ∀ (m i : Nat), m + i = (ownT s t).length → LoopsTo (rdB brC Tryz.prog lab0 lp_tq LO_tq Tryz.f6 14 [])
    [aBx 5 [.pv (pNs t)], aS s, aL 8 3 63 (ownT s t).length (encN (ownT s t)), atA (ownT s t) i, aI i] (.exit 2, [aX, aBx 5 [.pv (pNs t)], aS s, atA (ownT s t) (ownT s t).length]) := by
  have ho : shT (ownT s t) := shT_filter h _
  have hl := ho.1
  intro m
  induction m with
  | zero =>
    intro i hm
    obtain rfl : i = (ownT s t).length := by omega
    unfold atA
    by_cases h0 : (ownT s t).length = 0
    · rw [if_pos h0]
      refine .done _ _ ((r_tqGo0_eq t s (ownT s t).length _ (ownT s t).length).trans ?_)
      rw [dF (by omega)]
      rfl
    · rw [if_neg h0]
      refine .done _ _ ((r_tqGo_eq t s (ownT s t).length _ _ (ownT s t).length).trans ?_)
      rw [dF (by omega)]
      rfl
  | succ m ih =>
    intro i hm
    have hi : i < (ownT s t).length := by omega
    have hs := shN_at ho hi
    have ih' := ih (i + 1) (by omega)
    have hnx := walk_next (s := s) hB i (by omega)
    rw [List.getElem?_eq_getElem hi] at hnx
    have hpl : placeB s (atQ (ownT s t) i) = true := by unfold placeB; rw [hN, atQ_ok hB i]; rfl
    have hsh := atQ_sh (s := s) h i
    have hsame : sameX (ownT s t)[i].subs (ownT s t)[i].subs = true := holds_mk rfl
    have e1 := isT_mk h
    have e2 := isL_mk hs.2.1
    have hA : atA (ownT s t) (i + 1) = aP (pL (ownT s t)[i].subs) := by
      unfold atA
      rw [if_neg (by omega), atQ_succ hi]
    rw [hA] at ih'
    by_cases h0 : i = 0
    · subst h0
      have l0 : asL (PV.sl 0 []) = [] := asL_mk []
      have l1 : isL (PV.sl 0 []) = true := isL_mk shL_nilq
      have hq0 : atQ (ownT s t) 0 = [] := rfl
      rw [hq0] at hnx hpl
      have tree := r_tqGo0_eq t s (ownT s t).length (encN (ownT s t)) (0 : Nat)
      simp (disch := omega) only [e1, isT, asT_mk, l0, l1, dT, hsz, hB, hpl, hnx, hsame, e2, isL, asL_mk, Option.isSome_some, Option.map_some, Option.getD_some, Int.toNat_natCast, drop_encN _ _ hi, List.drop_zero, List.drop_succ_cons, List.length_cons, List.headD_cons, PV.isSl, PV.slN, PV.slL, blt0, wrap1, Bool.and_true, Bool.true_and] at tree
      exact .step _ _ _ tree ih'
    · have e3 := isL_mk hsh
      have hAi : atA (ownT s t) i = aP (pL (atQ (ownT s t) i)) := if_neg h0
      rw [hAi]
      have tree := r_tqGo_eq t s (ownT s t).length (encN (ownT s t)) (atQ (ownT s t) i) i
      simp (disch := omega) only [e1, isT, asT_mk, e3, dT, hsz, hB, hpl, hnx, hsame, e2, isL, asL_mk, Option.isSome_some, Option.map_some, Option.getD_some, Int.toNat_natCast, drop_encN _ _ hi, List.drop_zero, List.drop_succ_cons, List.length_cons, List.headD_cons, PV.isSl, PV.slN, PV.slL, blt0, wrap1, Bool.and_true, Bool.true_and] at tree
      exact .step _ _ _ tree ih'
theorem tq_loops : ∀ k ∈ [8, 14], (∀ b ∈ loopsIn (loopAt k Tryz.f6), LoopOk Tryz.prog (tabL lab0) (OL lp_tq) Tryz.f6.ntmps (pbOf []) LO_tq b) ∧ ∀ ls e ls', pickA (LO_tq k ls) = some (e, ls') → LoopsTo (rdB brC Tryz.prog lab0 lp_tq LO_tq Tryz.f6 k []) ls (e, ls') := by
  intro k hk
  rcases List.mem_cons.1 hk with rfl | hk
  · refine ⟨noLoop (by kernel_rfl), fun ls e ls' hl => ?_⟩
    unfold LO_tq at hl
    split at hl
    · rename_i x p s y e n l i _
      obtain ⟨hc, he⟩ := pick1 hl
      cases he
      simp only [Bool.and_eq_true, beq_iff_eq] at hc
      obtain ⟨⟨⟨⟨⟨⟨g1, g2⟩, g3⟩, g4⟩, g5⟩, g6⟩, g7⟩ := hc
      obtain ⟨t, rfl, ht⟩ := isE_inv g1
      rw [Nat.eq_of_beq_eq_true g3, Nat.eq_of_beq_eq_true g4, Nat.eq_of_beq_eq_true g5, Nat.eq_of_beq_eq_true g6, nilB_inv g7, g2]
      simp only [asNs_mk]
      exact tqOwn_loop t ht s t.length 0 (by omega)
    · rename_i hh
      cases hh
    · cases hl
  · rcases List.mem_cons.1 hk with rfl | hk
    · refine ⟨noLoop (by kernel_rfl), fun ls e ls' hl => ?_⟩
      unfold LO_tq at hl
      split at hl
      · rename_i hh
        cases hh
      · rename_i x p s y e n l z e' n' l' i _
        cases hg : (isNs p && (i == 0) && Nat.beq x 20480 && Nat.beq y 32768 && Nat.beq z 40960 && Nat.beq e 63 && Nat.beq e' 9 && Nat.beq n' 0 && nilB l' && treeB (asNs p) && nameB s && decide (s.size ≤ 1000000) && Nat.beq n (ownT s (asNs p)).length && holds (l = encN (ownT s (asNs p)))) with
        | false => rw [hg] at hl; simp only [pickA, Bool.false_and, cond_false] at hl; cases hl
        | true =>
          rw [hg, Bool.true_and] at hl
          simp only [Bool.and_eq_true, beq_iff_eq, decide_eq_true_eq] at hg
          obtain ⟨⟨⟨⟨⟨⟨⟨⟨⟨⟨⟨⟨⟨g1, g2⟩, g3⟩, g4⟩, g5⟩, g6⟩, g7⟩, g8⟩, g9⟩, g10⟩, g11⟩, g12⟩, g13⟩, g14⟩ := hg
          obtain ⟨t, rfl, ht⟩ := isE_inv g1
          simp only [asNs_mk] at hl g10 g13 g14
          have hn := Nat.eq_of_beq_eq_true g13
          rw [Nat.eq_of_beq_eq_true g3, Nat.eq_of_beq_eq_true g4, Nat.eq_of_beq_eq_true g5, Nat.eq_of_beq_eq_true g6, Nat.eq_of_beq_eq_true g7, Nat.eq_of_beq_eq_true g8, nilB_inv g9, holds_inv g14, g2, hn]
          rw [hn] at hl
          have := tqGo_loop t ht g10 s g12 g11 (ownT s t).length 0 (by omega)
          cases h0 : Nat.beq (ownT s t).length 0 with
          | true =>
            rw [h0] at hl
            cases hl
            have e : atA (ownT s t) (ownT s t).length = aL 10 1 9 0 [] := if_pos (Nat.eq_of_beq_eq_true h0)
            rw [e] at this
            exact this
          | false =>
            rw [h0] at hl
            cases hl
            have e : atA (ownT s t) (ownT s t).length = aP (pL (atQ (ownT s t) (ownT s t).length)) := if_neg (fun e => by rw [e] at h0; cases h0)
            rw [e] at this
            exact this
      · cases hl
    · cases hk
theorem tq_any (n : Nat) (l : List PV) (m : Nat) (k : List PV) (hw : wfB n l = true) : q_tq brC n l m k = some (cB true, []) := by
  refine (q_tq_eq n l m k).trans ?_
  by_cases hn : (n : Int) > 1048576
  · rw [dT hn]; rfl
  by_cases hm : (m : Int) > 1048576
  · rw [dF hn, dT hm]; rfl
  have hn' : n ≤ 1048576 := by omega
  obtain ⟨_, f2, f3⟩ := gn_facts hw hn'
  have ht : shT (gnT n l) := f2.1
  have hsz : (gnW n l).1.size ≤ 1000000 := f3.1
  rw [dF hn, dF hm, hw, dT hn']
  generalize gnT n l = t at ht ⊢
  generalize (gnW n l).1 = s at hsz ⊢
  have e1 := isT_mk ht
  have e2 := isNs_mk ht
  simp only [e1, e2, isT, isNs, asT_mk, asNs_mk]
  cases hB : treeB t with
  | false => rfl
  | true =>
    rw [dT hsz]
    cases hN : nameB s with
    | false => rfl
    | true =>
      have l0 : asE pL (PV.sl 0 []) = [] := asL_mk []
      have l1 : isE pL shL (PV.sl 0 []) = true := isL_mk shL_nilq
      have hnx := walk_next (s := s) hB (ownT s t).length (by omega)
      rw [List.getElem?_eq_none (Nat.le_refl _)] at hnx
      have hpl : placeB s (atQ (ownT s t) (ownT s t).length) = true := by unfold placeB; rw [hN, atQ_ok hB _]; rfl
      have e3 := isL_mk (atQ_sh (s := s) ht (ownT s t).length)
      have h1 : holds True = true := holds_mk trivial
      cases h0 : Nat.beq (ownT s t).length 0 with
      | true =>
        have hq0 : atQ (ownT s t) (ownT s t).length = [] := by rw [Nat.eq_of_beq_eq_true h0]; rfl
        rw [hq0] at hnx hpl
        simp only [isL, asL, l0, l1, h1, hnx, hpl, nilB_mk, Nat.beq_refl, Option.isSome_none, beq_self_eq_true, Bool.and_true, Bool.true_and, Bool.and_false]
        rfl
      | false =>
        simp only [isL, asL, e3, asL_mk, h1, hnx, hpl, nilB_mk, Nat.beq_refl, Option.isSome_none, beq_self_eq_true, Bool.and_true, Bool.true_and, Bool.and_false]
        rfl
end
end Go.Proofs.YtjbjgeekglpmlaaGreatDoor
