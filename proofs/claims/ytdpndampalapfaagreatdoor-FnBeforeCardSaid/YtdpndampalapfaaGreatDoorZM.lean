import Derived.Test.YtdpndampalapfaaGreatDoorVxC
import Derived.Test.YtdpndampalapfaaGreatDoorZL
import Derived.Test.YtdpndampalapfaaGreatDoorZB
namespace Go.Proofs.YtdpndampalapfaaGreatDoor
section
open Go.RowKit
set_option linter.unusedVariables false
set_option linter.unusedSimpArgs false
theorem andE {a b : Bool} (h : (a && b) = true) : a = true ∧ b = true := by
  cases a <;> cases b <;> simp_all
theorem pick3n {α : Type} {a b c : Bool} {x y z q : α} (h : pickA [(a, x), (b, y), (c, z)] = some q) : (a = true ∧ x = q) ∨ (a = false ∧ b = true ∧ y = q) ∨ (a = false ∧ b = false ∧ c = true ∧ z = q) := by
  cases a with
  | true => cases h; exact .inl ⟨rfl, rfl⟩
  | false => exact .inr ((pick2 h).elim (fun k => .inl ⟨rfl, k⟩) (fun k => .inr ⟨rfl, k⟩))
def idxV {α : Type} (p : α → Bool) (xs : List α) : Nat := (xs.takeWhile fun x => !p x).length
theorem idxV_in {α : Type} {p : α → Bool} {x : α} {t : List α} (h : p x = true) : idxV p (x :: t) = 0 := by unfold idxV; rw [List.takeWhile_cons, h]; rfl
theorem idxV_out {α : Type} {p : α → Bool} {x : α} {t : List α} (h : p x = false) : idxV p (x :: t) = idxV p t + 1 := by unfold idxV; rw [List.takeWhile_cons, h]; rfl
theorem idxV_any {α : Type} (p : α → Bool) : ∀ t : List α, decide (idxV p t < t.length) = t.any p
  | [] => rfl
  | x :: t => by
    rw [List.any_cons]
    cases h : p x with
    | true => rw [idxV_in h]; simp
    | false => rw [idxV_out h, Bool.false_or, ← idxV_any p t, List.length_cons]; simp
theorem ifIdxV (k n : Nat) : decide ((if k < n then (k : Int) else -1) ≥ 0) = decide (k < n) := by
  by_cases h : k < n
  · rw [if_pos h, dT h, dT (by omega)]
  · rw [if_neg h, dF h, dF (by omega)]
theorem ble4 (n : Nat) : Nat.ble 4 (n + 1 + 1 + 1 + 1) = true := Nat.ble_eq_true_of_le (by omega)
theorem ble5 (n : Nat) : Nat.ble 5 (n + 1 + 1 + 1 + 1 + 1) = true := Nat.ble_eq_true_of_le (by omega)
theorem ble6 (n : Nat) : Nat.ble 6 (n + 1 + 1 + 1 + 1 + 1 + 1) = true := Nat.ble_eq_true_of_le (by omega)
theorem holds_true : holds True = true := holds_mk trivial
end
section
open Go.RowKit
set_option linter.unusedVariables false
set_option linter.unusedSimpArgs false
structure ImT where
  name : ByteArray
  subs : List ByteArray
  had : Bool
  was : ByteArray
  has : Bool
  is : ByteArray
deriving Inhabited
abbrev pIm (x : ImT) : PV := .agg [PV.str x.name, PV.sl x.subs.length (x.subs.map PV.str), PV.bool x.had, PV.str x.was, PV.bool x.has, PV.str x.is]
def encIm : List ImT → List PV
  | [] => []
  | x :: t => PV.str x.name :: PV.sl x.subs.length (x.subs.map PV.str) :: PV.bool x.had :: PV.str x.was :: PV.bool x.has :: PV.str x.is :: encIm t
abbrev pIms (t : List ImT) : PV := .sl t.length (encIm t)
def shIm (x : ImT) : Prop := x.name.size ≤ 1000000 ∧ shL x.subs ∧ x.was.size ≤ 1000000 ∧ x.is.size ≤ 1000000
def shIms (t : List ImT) : Prop := t.length ≤ 100000 ∧ ∀ x ∈ t, shIm x
theorem encIm_inj : ∀ {t u : List ImT}, encIm t = encIm u → t = u
  | [], [], _ => rfl
  | [], _ :: _, h => by cases h
  | _ :: _, [], h => by cases h
  | x :: t, y :: u, h => by
    unfold encIm at h
    injection h with h0 h
    injection h with h1 h
    injection h with h2 h
    injection h with h3 h
    injection h with h4 h
    injection h with h5 h
    injection h0 with h0
    have h1 := pL_inj _ _ h1
    injection h2 with h2
    injection h3 with h3
    injection h4 with h4
    injection h5 with h5
    have := encIm_inj h
    cases x; cases y
    simp_all
theorem pIms_inj (t u : List ImT) (h : pIms t = pIms u) : t = u := by injection h with _ h; exact encIm_inj h
theorem pIm_inj (x y : ImT) (h : pIm x = pIm y) : x = y := by
  injection h with h
  injection h with h0 h
  injection h with h1 h
  injection h with h2 h
  injection h with h3 h
  injection h with h4 h
  injection h with h5 h
  injection h0 with h0
  have h1 := pL_inj _ _ h1
  injection h2 with h2
  injection h3 with h3
  injection h4 with h4
  injection h5 with h5
  cases x; cases y
  simp_all
noncomputable abbrev isIm (p : PV) : Bool := isE pIm shIm p
noncomputable abbrev asIm (p : PV) : ImT := asE pIm p
noncomputable abbrev isIms (p : PV) : Bool := isE pIms shIms p
noncomputable abbrev asIms (p : PV) : List ImT := asE pIms p
theorem isIm_mk {x : ImT} (h : shIm x) : isE pIm shIm (PV.agg [PV.str x.name, PV.sl x.subs.length (x.subs.map PV.str), PV.bool x.had, PV.str x.was, PV.bool x.has, PV.str x.is]) = true := isE_mk (enc := pIm) h
theorem asIm_mk (x : ImT) : asE pIm (PV.agg [PV.str x.name, PV.sl x.subs.length (x.subs.map PV.str), PV.bool x.had, PV.str x.was, PV.bool x.has, PV.str x.is]) = x := asE_mk pIm_inj x
theorem isIms_mk {t : List ImT} (h : shIms t) : isE pIms shIms (PV.sl t.length (encIm t)) = true := isE_mk (enc := pIms) h
theorem asIms_mk (t : List ImT) : asE pIms (PV.sl t.length (encIm t)) = t := asE_mk pIms_inj t
theorem encIm_len : ∀ t : List ImT, (encIm t).length = t.length * 6
  | [] => rfl
  | x :: t => by
    unfold encIm
    simp only [List.length_cons, encIm_len t]
    omega
theorem drop_encIm : ∀ (t : List ImT) (i : Nat) (h : i < t.length), (encIm t).drop (i * 6) = PV.str t[i].name :: PV.sl t[i].subs.length (t[i].subs.map PV.str) :: PV.bool t[i].had :: PV.str t[i].was :: PV.bool t[i].has :: PV.str t[i].is :: encIm (t.drop (i + 1))
  | [], i, h => by cases h
  | x :: t, 0, h => rfl
  | x :: t, i + 1, h => by
    have := drop_encIm t i (by simpa using h)
    rw [show (i + 1) * 6 = i * 6 + 6 by omega]
    show List.drop (i * 6 + 6) (PV.str x.name :: PV.sl x.subs.length (x.subs.map PV.str) :: PV.bool x.had :: PV.str x.was :: PV.bool x.has :: PV.str x.is :: encIm t) = _
    simp only [List.drop_succ_cons, List.getElem_cons_succ]
    exact this
theorem encIm_app : ∀ t u : List ImT, encIm (t ++ u) = encIm t ++ encIm u
  | [], u => rfl
  | x :: t, u => by
    show PV.str x.name :: PV.sl x.subs.length (x.subs.map PV.str) :: PV.bool x.had :: PV.str x.was :: PV.bool x.has :: PV.str x.is :: encIm (t ++ u) = _
    rw [encIm_app t u]
    rfl
theorem shIm_at {t : List ImT} (h : shIms t) {i : Nat} (hi : i < t.length) : shIm t[i] := h.2 _ (List.getElem_mem hi)
theorem shIms_nil : shIms [] := ⟨by simp, fun _ h => by cases h⟩
def imgB (i : ImT) : Bool := placeB i.name i.subs && decide (i.was.size ≤ 64) && decide (i.is.size ≤ 64) && (i.had || sEq i.was ⟨#[]⟩) && (i.has || sEq i.is ⟨#[]⟩) && (i.had != i.has || !sEq i.was i.is)
abbrev imLt (i j : ImT) : Bool := locLt i.name i.subs j.name j.subs
def imChain : Option ImT → List ImT → Bool
  | _, [] => true
  | p, i :: l => imgB i && (match p with | none => true | some j => imLt j i) && imChain (some i) l
def imgsB (l : List ImT) : Bool := imChain none l && decide (l.length ≤ 240)
def swapI (i : ImT) : ImT := ⟨i.name, i.subs, i.has, i.is, i.had, i.was⟩
theorem imgB_swap {i : ImT} (h : imgB i = true) : imgB (swapI i) = true := by
  unfold imgB at h ⊢
  simp only [Bool.and_eq_true] at h ⊢
  obtain ⟨⟨⟨⟨⟨h1, h2⟩, h3⟩, h4⟩, h5⟩, h6⟩ := h
  refine ⟨⟨⟨⟨⟨h1, h3⟩, h2⟩, h5⟩, h4⟩, ?_⟩
  have e : sEq i.is i.was = sEq i.was i.is := by rw [Bool.eq_iff_iff, sEq_iff, sEq_iff]; exact eq_comm
  show (i.has != i.had || !sEq i.is i.was) = true
  rw [e]
  cases h1 : i.had <;> cases h2 : i.has <;> rw [h1, h2] at h6 <;> exact h6
theorem imChain_swap : ∀ (l : List ImT) (p : Option ImT), imChain p l = true → imChain (p.map swapI) (l.map swapI) = true
  | [], _, _ => rfl
  | i :: l, p, h => by
    unfold imChain at h
    rw [Bool.and_eq_true, Bool.and_eq_true] at h
    rw [List.map_cons]
    unfold imChain
    rw [imgB_swap h.1.1, show imChain (some (swapI i)) (l.map swapI) = true from imChain_swap l (some i) h.2]
    cases p with
    | none => rfl
    | some j =>
      have := h.1.2
      dsimp only at this
      show (true && imLt (swapI j) (swapI i) && true) = true
      rw [show imLt (swapI j) (swapI i) = true from this]
      rfl
theorem imgsB_swap {l : List ImT} (h : imgsB l = true) : imgsB (l.map swapI) = true := by
  unfold imgsB at h ⊢
  rw [Bool.and_eq_true] at h
  rw [show imChain none (l.map swapI) = true from imChain_swap l none h.1, List.length_map]
  exact h.2
theorem imChain_ok : ∀ (l : List ImT) (p : Option ImT), imChain p l = true → (∀ i ∈ l, imgB i = true) ∧ l.Pairwise (fun i j => imLt i j = true) ∧ ∀ j, p = some j → ∀ i ∈ l, imLt j i = true
  | [], _, _ => ⟨fun x h => (List.not_mem_nil h).elim, .nil, fun y _ x h => (List.not_mem_nil h).elim⟩
  | x :: t, p, h => by
    unfold imChain at h
    rw [Bool.and_eq_true, Bool.and_eq_true] at h
    obtain ⟨⟨h1, h2⟩, h3⟩ := h
    obtain ⟨i1, i2, i3⟩ := imChain_ok t (some x) h3
    refine ⟨fun y hy => ?_, List.pairwise_cons.2 ⟨i3 x rfl, i2⟩, fun y hy z hz => ?_⟩
    · rcases List.mem_cons.1 hy with rfl | hy
      · exact h1
      · exact i1 y hy
    · subst hy
      rcases List.mem_cons.1 hz with rfl | hz
      · exact h2
      · exact locLt_trans h2 (i3 x rfl z hz)
noncomputable def imgFits (t : List NodeT) (i : ImT) : Bool := ((getV t i.name i.subs).isSome == i.had) && sEq ((getV t i.name i.subs).getD ⟨#[]⟩) i.was
noncomputable def fitsL (t : List NodeT) (l : List ImT) : Bool := l.all (imgFits t)
noncomputable def delT (t : List NodeT) (s : ByteArray) (xs : List ByteArray) : List NodeT := t.take (locIdx t s xs) ++ t.drop (locIdx t s xs + 1)
noncomputable def delL : List ImT → List NodeT → List NodeT
  | [], t => t
  | i :: l, t => delL l (if (hasAt t i.name i.subs && !i.has) = true then delT t i.name i.subs else t)
noncomputable def putL : List ImT → List NodeT → List NodeT × Int
  | [], t => (t, 0)
  | i :: l, t => if i.has = true then (if (!hasAt t i.name i.subs && decide (t.length = 120)) = true then (t, 4) else putL l (putT t i.name i.subs i.is)) else putL l t
noncomputable def redoL (t : List NodeT) (l : List ImT) : List NodeT × Int := if fitsL t l = true then putL l (delL l t) else (t, 5)
abbrev atI (i : ImT) (z : NodeT) : Prop := z.name = i.name ∧ z.subs = i.subs
theorem sorted_ext : ∀ {t u : List NodeT}, t.Pairwise (fun x y => nodeLt x y = true) → u.Pairwise (fun x y => nodeLt x y = true) → (∀ z, z ∈ t ↔ z ∈ u) → t = u
  | [], [], _, _, _ => rfl
  | [], y :: u, _, _, h => by have := (h y).2 (by simp); simp at this
  | x :: t, [], _, _, h => by have := (h x).1 (by simp); simp at this
  | x :: t, y :: u, ht, hu, h => by
    obtain ⟨h1, h2⟩ := List.pairwise_cons.1 ht
    obtain ⟨h3, h4⟩ := List.pairwise_cons.1 hu
    have hirr : ∀ z : NodeT, nodeLt z z = true → False := fun z hz => by unfold nodeLt at hz; rw [locLt_irrefl] at hz; cases hz
    have hxy : x = y := by
      rcases List.mem_cons.1 ((h x).1 (by simp)) with e | hx
      · exact e
      · rcases List.mem_cons.1 ((h y).2 (by simp)) with e | hy
        · exact e.symm
        · exact (hirr x (locLt_trans (h1 y hy) (h3 x hx))).elim
    subst hxy
    congr 1
    refine sorted_ext h2 h4 fun z => ⟨fun hz => ?_, fun hz => ?_⟩
    · rcases List.mem_cons.1 ((h z).1 (List.mem_cons_of_mem _ hz)) with rfl | k
      · exact (hirr z (h1 z hz)).elim
      · exact k
    · rcases List.mem_cons.1 ((h z).2 (List.mem_cons_of_mem _ hz)) with rfl | k
      · exact (hirr z (h3 z hz)).elim
      · exact k
theorem tree_ext {t u : List NodeT} (ht : treeB t = true) (hu : treeB u = true) (h : ∀ z, z ∈ t ↔ z ∈ u) : t = u := sorted_ext (treeB_ok ht).2.2 (treeB_ok hu).2.2 h
theorem one_at {t : List NodeT} (ht : treeB t = true) {x y : NodeT} (hx : x ∈ t) (hy : y ∈ t) (h1 : x.name = y.name) (h2 : x.subs = y.subs) : x = y := by
  obtain ⟨i, hi, rfl⟩ := List.mem_iff_getElem.1 hx
  obtain ⟨j, hj, rfl⟩ := List.mem_iff_getElem.1 hy
  have e : i = j := by rw [← loc_at ht hi, ← loc_at ht hj, h1, h2]
  subst e
  rfl
theorem getV_iff {t : List NodeT} (ht : treeB t = true) {s : ByteArray} {xs : List ByteArray} {v : ByteArray} : getV t s xs = some v ↔ (⟨s, xs, v⟩ : NodeT) ∈ t := by
  constructor
  · intro h
    unfold getV at h
    split at h
    · rename_i hh
      obtain ⟨hl, e1, e2⟩ := hasAt_inv hh
      rw [List.getElem?_eq_getElem hl] at h
      injection h with h
      have hm : t[locIdx t s xs] ∈ t := List.getElem_mem hl
      generalize t[locIdx t s xs] = z at hm e1 e2 h
      subst e1 e2 h
      exact hm
    · cases h
  · intro h
    exact getV_mem ht h
theorem getV_none {t : List NodeT} (ht : treeB t = true) {s : ByteArray} {xs : List ByteArray} : getV t s xs = none ↔ ∀ z ∈ t, ¬ (z.name = s ∧ z.subs = xs) := by
  constructor
  · rintro h z hz ⟨rfl, rfl⟩
    rw [getV_mem ht hz] at h
    cases h
  · intro h
    cases hg : getV t s xs with
    | none => rfl
    | some v => exact absurd ⟨rfl, rfl⟩ (h _ ((getV_iff ht).1 hg))
theorem treeB_mk {t : List NodeT} (h1 : t.length ≤ 120) (h2 : ∀ x ∈ t, nodeB x = true) (h3 : t.Pairwise (fun x y => nodeLt x y = true)) : treeB t = true := by
  unfold treeB
  rw [chainB_mk t none h2 h3 (fun y hy => by cases hy), dT h1]
  rfl
theorem treeB_sub {t u : List NodeT} (h : treeB t = true) (hs : u.Sublist t) : treeB u = true := by
  obtain ⟨h1, h2, h3⟩ := treeB_ok h
  exact treeB_mk (Nat.le_trans hs.length_le h1) (fun x hx => h2 x (hs.subset hx)) (h3.sublist hs)
theorem delT_sub (t : List NodeT) (s : ByteArray) (xs : List ByteArray) : (delT t s xs).Sublist t := by
  unfold delT
  have h : (t.take (locIdx t s xs) ++ t.drop (locIdx t s xs + 1)).Sublist (t.take (locIdx t s xs) ++ t.drop (locIdx t s xs)) := by
    refine List.Sublist.append (List.Sublist.refl _) ?_
    rw [← List.drop_drop]
    exact List.drop_sublist _ _
  rwa [List.take_append_drop] at h
theorem mem_delT {t : List NodeT} (ht : treeB t = true) {s : ByteArray} {xs : List ByteArray} (hh : hasAt t s xs = true) {z : NodeT} : z ∈ delT t s xs ↔ z ∈ t ∧ ¬ (z.name = s ∧ z.subs = xs) := by
  obtain ⟨hl, e1, e2⟩ := hasAt_inv hh
  have hpw := List.pairwise_iff_getElem.1 (treeB_ok ht).2.2
  have hirr : ∀ z : NodeT, nodeLt z z = true → False := fun z hz => by unfold nodeLt at hz; rw [locLt_irrefl] at hz; cases hz
  constructor
  · intro hz
    refine ⟨(delT_sub t s xs).subset hz, fun he => ?_⟩
    have hz' := (delT_sub t s xs).subset hz
    have hx : t[locIdx t s xs] ∈ t := List.getElem_mem hl
    have := one_at ht hz' hx (he.1.trans e1.symm) (he.2.trans e2.symm)
    subst this
    unfold delT at hz
    rcases List.mem_append.1 hz with h | h
    · obtain ⟨j, hj, ej⟩ := List.mem_iff_getElem.1 h
      rw [List.length_take] at hj
      rw [List.getElem_take] at ej
      have := hpw j (locIdx t s xs) (by omega) hl (by omega)
      rw [ej] at this
      exact hirr _ this
    · obtain ⟨j, hj, ej⟩ := List.mem_iff_getElem.1 h
      rw [List.length_drop] at hj
      rw [List.getElem_drop] at ej
      have := hpw (locIdx t s xs) (locIdx t s xs + 1 + j) hl (by omega) (by omega)
      rw [ej] at this
      exact hirr _ this
  · rintro ⟨hz, hne⟩
    obtain ⟨j, hj, rfl⟩ := List.mem_iff_getElem.1 hz
    unfold delT
    rcases Nat.lt_or_ge j (locIdx t s xs) with h | h
    · exact List.mem_append.2 (.inl (List.mem_iff_getElem.2 ⟨j, by rw [List.length_take]; omega, by rw [List.getElem_take]⟩))
    · have hne' : j ≠ locIdx t s xs := fun e => by subst e; exact hne ⟨e1, e2⟩
      refine List.mem_append.2 (.inr (List.mem_iff_getElem.2 ⟨j - (locIdx t s xs + 1), by rw [List.length_drop]; omega, ?_⟩))
      rw [List.getElem_drop]
      congr 1
      omega
theorem mem_putT' {t : List NodeT} (ht : treeB t = true) {s : ByteArray} {xs : List ByteArray} {v : ByteArray} (hB1 : treeB (putT t s xs v) = true) {z : NodeT} : z ∈ putT t s xs v ↔ z = ⟨s, xs, v⟩ ∨ (z ∈ t ∧ ¬ (z.name = s ∧ z.subs = xs)) := by
  constructor
  · intro hz
    by_cases he : z.name = s ∧ z.subs = xs
    · exact .inl (one_at hB1 hz putT_own he.1 he.2)
    · rcases mem_putT hz with rfl | h
      · exact absurd ⟨rfl, rfl⟩ he
      · exact .inr ⟨h, he⟩
  · rintro (rfl | ⟨hz, he⟩)
    · exact putT_own
    · rcases putT_kept hz (s := s) (xs := xs) (v := v) with h | h
      · exact absurd h he
      · exact h
theorem delL_ok : ∀ (l : List ImT) (t : List NodeT), treeB t = true → treeB (delL l t) = true ∧ ∀ z, z ∈ delL l t ↔ z ∈ t ∧ ∀ i ∈ l, i.has = false → ¬ atI i z
  | [], t, ht => ⟨ht, fun z => ⟨fun h => ⟨h, fun _ h => by cases h⟩, fun h => h.1⟩⟩
  | i :: l, t, ht => by
    unfold delL
    split
    · rename_i hc
      rw [Bool.and_eq_true] at hc
      obtain ⟨h1, h2⟩ := delL_ok l (delT t i.name i.subs) (treeB_sub ht (delT_sub _ _ _))
      refine ⟨h1, fun z => ?_⟩
      rw [h2, mem_delT ht hc.1]
      have hf : i.has = false := by simpa using hc.2
      constructor
      · rintro ⟨⟨a, b⟩, c⟩
        refine ⟨a, fun j hj => ?_⟩
        rcases List.mem_cons.1 hj with rfl | hj
        · exact fun _ => b
        · exact c j hj
      · rintro ⟨a, c⟩
        exact ⟨⟨a, c i (by simp) hf⟩, fun j hj => c j (List.mem_cons_of_mem _ hj)⟩
    · rename_i hc
      obtain ⟨h1, h2⟩ := delL_ok l t ht
      refine ⟨h1, fun z => ?_⟩
      rw [h2]
      constructor
      · rintro ⟨a, c⟩
        refine ⟨a, fun j hj => ?_⟩
        rcases List.mem_cons.1 hj with rfl | hj
        · intro hf he
          apply hc
          rw [hf, Bool.not_false, Bool.and_true]
          exact (hasAt_iff ht).2 ⟨z, a, he.1, he.2⟩
        · exact c j hj
      · rintro ⟨a, c⟩
        exact ⟨a, fun j hj => c j (List.mem_cons_of_mem _ hj)⟩
def nodeI (i : ImT) : NodeT := ⟨i.name, i.subs, i.is⟩
theorem imgB_place {i : ImT} (h : imgB i = true) : placeB i.name i.subs = true ∧ i.was.size ≤ 64 ∧ i.is.size ≤ 64 := by
  unfold imgB at h
  simp only [Bool.and_eq_true, decide_eq_true_eq] at h
  exact ⟨h.1.1.1.1.1, h.1.1.1.1.2, h.1.1.1.2⟩
theorem putL_ok : ∀ (l : List ImT) (t u : List NodeT), treeB t = true → (∀ i ∈ l, imgB i = true) → l.Pairwise (fun i j => imLt i j = true) → putL l t = (u, 0) →
    treeB u = true ∧ ∀ z, z ∈ u ↔ (∃ i ∈ l, i.has = true ∧ z = nodeI i) ∨ (z ∈ t ∧ ∀ i ∈ l, i.has = true → ¬ atI i z)
  | [], t, u, ht, _, _, h => by
    unfold putL at h
    injection h with h _
    subst h
    exact ⟨ht, fun z => ⟨fun h => .inr ⟨h, fun _ h => by cases h⟩, fun h => by rcases h with ⟨_, h, _⟩ | h; cases h; exact h.1⟩⟩
  | i :: l, t, u, ht, hi, hp, h => by
    obtain ⟨hp1, hp2⟩ := List.pairwise_cons.1 hp
    have hi' := fun j hj => hi j (List.mem_cons_of_mem _ hj)
    unfold putL at h
    by_cases hh : i.has = true
    · rw [if_pos hh] at h
      split at h
      · injection h with _ h; cases h
      · rename_i hc
        obtain ⟨p1, p2, p3⟩ := imgB_place (hi i (by simp))
        have hr : hasAt t i.name i.subs = true ∨ t.length < 120 := by
          have := (treeB_ok ht).1
          cases hq : hasAt t i.name i.subs with
          | true => exact .inl rfl
          | false =>
            right
            rw [hq, Bool.not_false, Bool.true_and, decide_eq_true_eq] at hc
            omega
        have hB1 := putT_B ht p1 p3 hr
        obtain ⟨h1, h2⟩ := putL_ok l _ u hB1 hi' hp2 h
        refine ⟨h1, fun z => ?_⟩
        rw [h2, mem_putT' ht hB1]
        constructor
        · rintro (⟨j, hj, a, b⟩ | ⟨rfl | ⟨a, b⟩, c⟩)
          · exact .inl ⟨j, List.mem_cons_of_mem _ hj, a, b⟩
          · exact .inl ⟨i, by simp, hh, rfl⟩
          · refine .inr ⟨a, fun j hj => ?_⟩
            rcases List.mem_cons.1 hj with rfl | hj
            · exact fun _ => b
            · exact c j hj
        · rintro (⟨j, hj, a, b⟩ | ⟨a, c⟩)
          · rcases List.mem_cons.1 hj with rfl | hj
            · subst b
              refine .inr ⟨.inl rfl, fun k hk _ he => ?_⟩
              have := hp1 k hk
              unfold imLt at this
              rw [← he.1, ← he.2] at this
              unfold nodeI at this
              rw [locLt_irrefl] at this
              cases this
            · exact .inl ⟨j, hj, a, b⟩
          · exact .inr ⟨.inr ⟨a, c i (by simp) hh⟩, fun j hj => c j (List.mem_cons_of_mem _ hj)⟩
    · rw [if_neg hh] at h
      obtain ⟨h1, h2⟩ := putL_ok l _ u ht hi' hp2 h
      refine ⟨h1, fun z => ?_⟩
      rw [h2]
      constructor
      · rintro (⟨j, hj, a, b⟩ | ⟨a, c⟩)
        · exact .inl ⟨j, List.mem_cons_of_mem _ hj, a, b⟩
        · refine .inr ⟨a, fun j hj => ?_⟩
          rcases List.mem_cons.1 hj with rfl | hj
          · exact fun k => absurd k hh
          · exact c j hj
      · rintro (⟨j, hj, a, b⟩ | ⟨a, c⟩)
        · rcases List.mem_cons.1 hj with rfl | hj
          · exact absurd a hh
          · exact .inl ⟨j, hj, a, b⟩
        · exact .inr ⟨a, fun j hj => c j (List.mem_cons_of_mem _ hj)⟩
theorem redo_mem {t u : List NodeT} {l : List ImT} (ht : treeB t = true) (hl : imgsB l = true) (h : redoL t l = (u, 0)) :
    treeB u = true ∧ fitsL t l = true ∧ ∀ z, z ∈ u ↔ (∃ i ∈ l, i.has = true ∧ z = nodeI i) ∨ (z ∈ t ∧ ∀ i ∈ l, ¬ atI i z) := by
  unfold redoL at h
  split at h
  · rename_i hf
    unfold imgsB at hl
    rw [Bool.and_eq_true] at hl
    obtain ⟨l1, l2, _⟩ := imChain_ok l none hl.1
    obtain ⟨d1, d2⟩ := delL_ok l t ht
    obtain ⟨u1, u2⟩ := putL_ok l _ u d1 l1 l2 h
    refine ⟨u1, hf, fun z => ?_⟩
    rw [u2, d2]
    constructor
    · rintro (k | ⟨⟨a, b⟩, c⟩)
      · exact .inl k
      · refine .inr ⟨a, fun i hi => ?_⟩
        cases hh : i.has with
        | true => exact c i hi hh
        | false => exact b i hi hh
    · rintro (k | ⟨a, b⟩)
      · exact .inl k
      · exact .inr ⟨⟨a, fun i hi _ => b i hi⟩, fun i hi _ => b i hi⟩
  · injection h with _ h; cases h
theorem nodup_len {α : Type} [DecidableEq α] : ∀ {u t : List α}, u.Nodup → u ⊆ t → u.length ≤ t.length
  | [], _, _, _ => Nat.zero_le _
  | a :: u, t, hn, hs => by
    obtain ⟨h1, h2⟩ := List.nodup_cons.1 hn
    have ha : a ∈ t := hs (by simp)
    have := nodup_len (u := u) (t := t.erase a) h2 fun x hx => by
      have hne : x ≠ a := fun e => h1 (e ▸ hx)
      exact (List.mem_erase_of_ne hne).2 (hs (List.mem_cons_of_mem _ hx))
    rw [List.length_erase_of_mem ha] at this
    have : 0 < t.length := List.length_pos_of_mem ha
    rw [List.length_cons]
    omega
abbrev locOf (z : NodeT) : ByteArray × List ByteArray := (z.name, z.subs)
theorem locs_nodup {t : List NodeT} (ht : treeB t = true) : (t.map locOf).Nodup := by
  refine List.Pairwise.map _ (R := fun x y => nodeLt x y = true) ?_ (treeB_ok ht).2.2
  intro a b hab he
  unfold nodeLt at hab
  injection he with e1 e2
  rw [e1, e2, locLt_irrefl] at hab
  cases hab
open Classical in
theorem room {t u : List NodeT} (ht : treeB t = true) (hu : treeB u = true) (hs : ∀ z ∈ u, locOf z ∈ t.map locOf) {p : ByteArray × List ByteArray} (hp : p ∈ t.map locOf) (hn : hasAt u p.1 p.2 = false) : u.length < 120 := by
  have hnd : (p :: u.map locOf).Nodup := by
    refine List.nodup_cons.2 ⟨fun h => ?_, locs_nodup hu⟩
    obtain ⟨z, hz, e⟩ := List.mem_map.1 h
    have := (hasAt_iff hu (s := p.1) (p := p.2)).2 ⟨z, hz, by rw [← e], by rw [← e]⟩
    rw [hn] at this
    cases this
  have hle := nodup_len hnd (t := t.map locOf) fun x hx => by
    rcases List.mem_cons.1 hx with rfl | hx
    · exact hp
    · obtain ⟨z, hz, rfl⟩ := List.mem_map.1 hx
      exact hs z hz
  rw [List.length_cons, List.length_map, List.length_map] at hle
  have := (treeB_ok ht).1
  omega
theorem putL_fits {T : List NodeT} (hT : treeB T = true) : ∀ (l : List ImT) (t : List NodeT), treeB t = true → (∀ i ∈ l, imgB i = true) → (∀ z ∈ t, locOf z ∈ T.map locOf) → (∀ i ∈ l, i.has = true → (i.name, i.subs) ∈ T.map locOf) → (putL l t).2 = 0
  | [], t, _, _, _, _ => rfl
  | i :: l, t, ht, hi, h1, h2 => by
    have hi' := fun j hj => hi j (List.mem_cons_of_mem _ hj)
    have h2' := fun j hj => h2 j (List.mem_cons_of_mem _ hj)
    unfold putL
    split
    · rename_i hh
      obtain ⟨p1, p2, p3⟩ := imgB_place (hi i (by simp))
      have hm := h2 i (by simp) hh
      have hr : hasAt t i.name i.subs = true ∨ t.length < 120 := by
        cases hq : hasAt t i.name i.subs with
        | true => exact .inl rfl
        | false => exact .inr (room hT ht h1 hm hq)
      have hc : ¬ (!hasAt t i.name i.subs && decide (t.length = 120)) = true := by
        rcases hr with h | h
        · rw [h]; simp
        · rw [dF (by omega)]; simp
      rw [if_neg hc]
      have hB1 := putT_B ht p1 p3 hr
      refine putL_fits hT l _ hB1 hi' (fun z hz => ?_) h2'
      rcases (mem_putT' ht hB1).1 hz with rfl | ⟨a, _⟩
      · exact hm
      · exact h1 z a
    · exact putL_fits hT l t ht hi' h1 h2'
theorem fits_at {t : List NodeT} (ht : treeB t = true) {l : List ImT} (hf : fitsL t l = true) {i : ImT} (hi : i ∈ l) : (i.had = true → (⟨i.name, i.subs, i.was⟩ : NodeT) ∈ t) ∧ (i.had = false → ∀ z ∈ t, ¬ atI i z) ∧ ∀ z ∈ t, atI i z → i.had = true ∧ z.value = i.was := by
  have h := List.all_eq_true.1 hf i hi
  unfold imgFits at h
  rw [Bool.and_eq_true, beq_iff_eq] at h
  obtain ⟨h1, h2⟩ := h
  have h2 := sEq_iff.1 h2
  cases hg : getV t i.name i.subs with
  | none =>
    rw [hg] at h1
    have hn := (getV_none ht).1 hg
    refine ⟨fun e => (by rw [e] at h1; cases h1), fun _ => hn, fun z hz he => absurd he (hn z hz)⟩
  | some v =>
    rw [hg] at h1 h2
    have hm := (getV_iff ht).1 hg
    have hv : v = i.was := h2
    subst hv
    refine ⟨fun _ => hm, fun e => (by rw [e] at h1; cases h1), fun z hz he => ⟨h1.symm, ?_⟩⟩
    rw [one_at ht hz hm he.1 he.2]
theorem undo_redo {t x : List NodeT} {l : List ImT} (ht : treeB t = true) (hl : imgsB l = true) (h : redoL t l = (x, 0)) : redoL x (l.map swapI) = (t, 0) := by
  obtain ⟨hx, hf, hm⟩ := redo_mem ht hl h
  have hl' := imgsB_swap hl
  have hlp := hl
  unfold imgsB at hlp
  rw [Bool.and_eq_true] at hlp
  obtain ⟨l1, l2, _⟩ := imChain_ok l none hlp.1
  have hlp' := hl'
  unfold imgsB at hlp'
  rw [Bool.and_eq_true] at hlp'
  obtain ⟨s1, s2, _⟩ := imChain_ok _ none hlp'.1
  have hapart : ∀ i ∈ l, ∀ j ∈ l, i.name = j.name → i.subs = j.subs → i = j := by
    intro i hi j hj e1 e2
    obtain ⟨a, ha, rfl⟩ := List.mem_iff_getElem.1 hi
    obtain ⟨b, hb, rfl⟩ := List.mem_iff_getElem.1 hj
    have hpw := List.pairwise_iff_getElem.1 l2
    rcases Nat.lt_trichotomy a b with hab | rfl | hab
    · have := hpw a b ha hb hab
      unfold imLt at this
      rw [e1, e2, locLt_irrefl] at this
      cases this
    · rfl
    · have := hpw b a hb ha hab
      unfold imLt at this
      rw [e1, e2, locLt_irrefl] at this
      cases this

  have hfit : fitsL x (l.map swapI) = true := by
    refine List.all_eq_true.2 fun j hj => ?_
    obtain ⟨i, hi, rfl⟩ := List.mem_map.1 hj
    unfold imgFits
    show ((getV x i.name i.subs).isSome == i.has && sEq ((getV x i.name i.subs).getD ⟨#[]⟩) i.is) = true
    cases hh : i.has with
    | true =>
      have : (⟨i.name, i.subs, i.is⟩ : NodeT) ∈ x := (hm _).2 (.inl ⟨i, hi, hh, rfl⟩)
      rw [(getV_iff hx).2 this]
      simp
    | false =>
      have hn : getV x i.name i.subs = none := (getV_none hx).2 fun z hz he => by
        rcases (hm z).1 hz with ⟨j, hj, a, rfl⟩ | ⟨a, b⟩
        · have := hapart i hi j hj he.1.symm he.2.symm
          subst this
          rw [hh] at a
          cases a
        · exact b i hi he
      rw [hn]
      have hg := l1 i hi
      unfold imgB at hg
      simp only [Bool.and_eq_true] at hg
      have h5 := hg.1.2
      rw [hh, Bool.false_or] at h5
      have := sEq_iff.1 h5
      rw [this]
      simp
  obtain ⟨d1, d2⟩ := delL_ok (l.map swapI) x hx
  have hloc : ∀ z ∈ delL (l.map swapI) x, locOf z ∈ t.map locOf := by
    intro z hz
    obtain ⟨a, b⟩ := (d2 z).1 hz
    rcases (hm z).1 a with ⟨j, hj, k, rfl⟩ | ⟨k, _⟩
    · cases hd : j.had with
      | true => exact List.mem_map.2 ⟨_, (fits_at ht hf hj).1 hd, rfl⟩
      | false => exact absurd ⟨rfl, rfl⟩ (b (swapI j) (List.mem_map.2 ⟨j, hj, rfl⟩) hd)
    · exact List.mem_map.2 ⟨z, k, rfl⟩
  have hput : (putL (l.map swapI) (delL (l.map swapI) x)).2 = 0 := putL_fits ht _ _ d1 s1 hloc fun j hj hh => by
    obtain ⟨i, hi, rfl⟩ := List.mem_map.1 hj
    exact List.mem_map.2 ⟨_, (fits_at ht hf hi).1 hh, rfl⟩
  have hred : redoL x (l.map swapI) = ((putL (l.map swapI) (delL (l.map swapI) x)).1, 0) := by
    unfold redoL
    rw [if_pos hfit]
    exact Prod.ext rfl hput
  obtain ⟨y1, _, y2⟩ := redo_mem hx hl' hred
  rw [hred]
  congr 1
  refine tree_ext y1 ht fun z => ?_
  rw [y2]
  constructor
  · rintro (⟨j, hj, a, rfl⟩ | ⟨a, b⟩)
    · obtain ⟨i, hi, rfl⟩ := List.mem_map.1 hj
      exact (fits_at ht hf hi).1 a
    · rcases (hm z).1 a with ⟨i, hi, c, rfl⟩ | ⟨c, _⟩
      · exact absurd ⟨rfl, rfl⟩ (b (swapI i) (List.mem_map.2 ⟨i, hi, rfl⟩))
      · exact c
  · intro hz
    by_cases he : ∃ i ∈ l, atI i z
    · obtain ⟨i, hi, he⟩ := he
      obtain ⟨a, b⟩ := (fits_at ht hf hi).2.2 z hz he
      refine .inl ⟨swapI i, List.mem_map.2 ⟨i, hi, rfl⟩, a, ?_⟩
      show z = ⟨i.name, i.subs, i.was⟩
      rw [← he.1, ← he.2, ← b]
    · have hn : ∀ i ∈ l, ¬ atI i z := fun i hi h => he ⟨i, hi, h⟩
      refine .inr ⟨(hm z).2 (.inr ⟨hz, hn⟩), fun j hj => ?_⟩
      obtain ⟨i, hi, rfl⟩ := List.mem_map.1 hj
      exact hn i hi
theorem undo_twice {t : List NodeT} {l : List ImT} (hf : fitsL t l = true) (hl : imgsB l = true) (hne : l ≠ []) : fitsL t (l.map swapI) = false := by
  cases l with
  | nil => exact absurd rfl hne
  | cons i l =>
    have h := List.all_eq_true.1 hf i (by simp)
    unfold imgsB imChain at hl
    simp only [Bool.and_eq_true] at hl
    have hg := hl.1.1.1
    unfold imgB at hg
    simp only [Bool.and_eq_true] at hg
    have h6 := hg.2
    unfold fitsL
    rw [List.map_cons, List.all_cons]
    unfold imgFits at h ⊢
    rw [Bool.and_eq_true, beq_iff_eq] at h
    show ((getV t i.name i.subs).isSome == i.has && sEq ((getV t i.name i.subs).getD ⟨#[]⟩) i.is && _) = false
    rw [h.1, sEq_iff.1 h.2]
    cases h1 : i.had <;> cases h2 : i.has <;> rw [h1, h2] at h6 <;> simp at h6 ⊢ <;> simp [h6]
end
section
open Go.RowKit
set_option linter.unusedVariables false
abbrev lp_IdxFL : List (Nat × List Nat × List Nat) := [(2, [0, 1, 7, 8], [4])]
def E_longL1 : Entry := fun ivs => match ivs with | [.cv (.pv (.str s))] => [(true, cB (decide ((s.size : Int) > 64)), [])] | _ => []
noncomputable def q_longL1 (br : Br) (s : ByteArray) := evB br Tryz.prog [] [] LO0 Tryz.f346 [cS s]
noncomputable def lgb2 : List (FuncId × Entry) := [(346, E_longL1)]
def frstL (xs : List ByteArray) : Nat := idxV (fun x => decide ((x.size : Int) > 64)) xs
noncomputable def LO_IdxFL : LoopT := fun _ ls => match ls with
  | [(.pv p, none), (.pv (.clo f []), none), (.pv (.int .i64 n), none), (.pv (.int .i64 i), none)] =>
    [(isL p && Nat.beq f 346 && (n == ((asL p).length : Int)) && (i == 0) && decide (frstL (asL p) < (asL p).length), .ret, [aI (frstL (asL p))]),
     (isL p && Nat.beq f 346 && (n == ((asL p).length : Int)) && (i == 0), .exit 0, [aX])]
  | _ => []
noncomputable def r_IdxFL (br : Br) (xs : List ByteArray) (i : Int) := rdB br Tryz.prog lgb2 lp_IdxFL LO_IdxFL Tryz.f280 2 [] [aP (pL xs), aP (.clo 346 []), aI xs.length, aI i]
noncomputable def q_IdxFL (br : Br) (xs : List ByteArray) := evB br Tryz.prog lgb2 lp_IdxFL LO_IdxFL Tryz.f280 [cP (pL xs), cP (.clo 346 [])]
noncomputable def E_IdxFL : Entry := fun ivs => match ivs with
  | [.cv (.pv p), .cv (.pv (.clo f []))] => [(isL p && Nat.beq f 346, cI (if frstL (asL p) < (asL p).length then frstL (asL p) else -1), [])]
  | _ => []
noncomputable def lgb3 : List (FuncId × Entry) := (280, E_IdxFL) :: lgb2
noncomputable def q_ContFL (br : Br) (xs : List ByteArray) := evB br Tryz.prog lgb3 [] LO0 Tryz.f182 [cP (pL xs), cP (.clo 346 [])]
noncomputable def E_ContFL : Entry := fun ivs => match ivs with
  | [.cv (.pv p), .cv (.pv (.clo f []))] => [(isL p && Nat.beq f 346, cB (decide (frstL (asL p) < (asL p).length)), [])]
  | _ => []
noncomputable def lgb4 : List (FuncId × Entry) := (182, E_ContFL) :: lgb3
noncomputable def q_longL (br : Br) (xs : List ByteArray) := evB br Tryz.prog lgb4 [] LO0 Tryz.f266 [cP (pL xs)]
noncomputable def E_longL : Entry := fun ivs => match ivs with | [.cv (.pv p)] => [(isL p, cB (decide (frstL (asL p) < (asL p).length)), [])] | _ => []
end
section
set_option linter.unusedVariables false
set_option maxRecDepth 100000
theorem q_longL_eq (xs : List ByteArray) : q_longL brC xs =
 brC (isL (PV.sl (List.length xs) (List.map PV.str xs)) && Nat.beq 346 346)
 (some ((IV.cv (CV.pv (PV.bool (decide (frstL (asL (PV.sl (List.length xs) (List.map PV.str xs))) < List.length (asL (PV.sl (List.length xs) (List.map PV.str xs))))))), [])))
 (none) := by kernel_rfl
theorem q_IdxFL_eq (xs : List ByteArray) : q_IdxFL brC xs =
 brC (isL (pL xs) && Nat.beq 346 346 && (↑(List.length xs) : Int) == (↑(List.length (asL (pL xs))) : Int) && 0 == 0 && decide (frstL (asL (pL xs)) < List.length (asL (pL xs))))
 (some ((IV.cv (CV.pv (PV.int IntKind.i64 (↑(frstL (asL (pL xs))) : Int))), [])))
 (brC (isL (pL xs) && Nat.beq 346 346 && (↑(List.length xs) : Int) == (↑(List.length (asL (pL xs))) : Int) && 0 == 0)
 (some ((IV.cv (CV.pv (PV.int IntKind.i64 (Int.negSucc 0))), [])))
 (none)) := by kernel_rfl
theorem r_IdxFL_eq (xs : List ByteArray) (i : Int) : r_IdxFL brC xs i =
 brC (decide (i < (↑(List.length xs) : Int)))
 (brC (decide (0 ≤ i) && decide (i < (↑(List.length xs) : Int)))
 (brC (Nat.blt 0 (List.length (List.drop (Int.toNat i * 1) (List.map PV.str xs))) && PV.isStr (List.headD (List.drop (Int.toNat i * 1) (List.map PV.str xs)) PV.nilp) && true)
 (brC (decide ((↑(ByteArray.size (PV.asStr (List.headD (List.drop (Int.toNat i * 1) (List.map PV.str xs)) PV.nilp))) : Int) > 64))
 (some (Sum.inr (Ex.ret, [(AV.pv (PV.int IntKind.i64 i), none)])))
 (some (Sum.inl [(AV.pv (PV.sl (List.length xs) (List.map PV.str xs)), none), (AV.pv (PV.clo 346 []), none), (AV.pv (PV.int IntKind.i64 (↑(List.length xs) : Int)), none), (AV.pv (PV.int IntKind.i64 (IntKind.wrap IntKind.i64 (i + 1))), none)])))
 (none))
 (none))
 (some (Sum.inr (Ex.exit 0, [(AV.bad, none)]))) := by kernel_rfl
theorem q_ContFL_eq (xs : List ByteArray) : q_ContFL brC xs =
 brC (isL (PV.sl (List.length xs) (List.map PV.str xs)) && Nat.beq 346 346)
 (some ((IV.cv (CV.pv (PV.bool (decide ((if frstL (asL (PV.sl (List.length xs) (List.map PV.str xs))) < List.length (asL (PV.sl (List.length xs) (List.map PV.str xs))) then (↑(frstL (asL (PV.sl (List.length xs) (List.map PV.str xs)))) : Int) else -1) ≥ 0)))), [])))
 (none) := by kernel_rfl
theorem q_longL1_eq (s : ByteArray) : q_longL1 brC s =
 some ((IV.cv (CV.pv (PV.bool (decide ((↑(ByteArray.size s) : Int) > 64)))), [])) := by kernel_rfl
end
section
open Go.RowKit
set_option linter.unusedVariables false
set_option linter.unusedSimpArgs false
set_option maxRecDepth 100000
theorem ok_longL1 : EntryOk Tryz.prog 346 E_longL1 := entry_of mix (tab := []) trivial (lp := []) (LO := LO0) ⟨Tryz.func346, by kernel_rfl, by kernel_rfl⟩ (by kernel_rfl) fun ivs res bxs h => by
  unfold E_longL1 at h
  split at h
  · rename_i s
    cases h
    exact ⟨noLoop (by kernel_rfl), q_longL1_eq s⟩
  · cases h
theorem ok_lgb2 : EntriesOk Tryz.prog lgb2 := ⟨ok_longL1, trivial⟩
theorem IdxFL_loop (xs : List ByteArray) (hx : shL xs) : ∀ (m i : Nat), m + i = xs.length → LoopsTo (rdB brC Tryz.prog lgb2 lp_IdxFL LO_IdxFL Tryz.f280 2 []) [aP (pL xs), aP (.clo 346 []), aI xs.length, aI i]
    (if frstL (xs.drop i) + i < xs.length then (.ret, [aI ((frstL (xs.drop i) + i : Nat) : Int)]) else (.exit 0, [aX])) := by
  have hl := hx.1
  intro m
  induction m with
  | zero =>
    intro i hm
    obtain rfl : i = xs.length := by omega
    rw [List.drop_length, show frstL [] = 0 from rfl, if_neg (by omega)]
    refine .done _ _ ((r_IdxFL_eq xs xs.length).trans ?_)
    rw [dF (by omega)]
    rfl
  | succ m ih =>
    intro i hm
    have hi : i < xs.length := by omega
    have ih' := ih (i + 1) (by omega)
    have tree := r_IdxFL_eq xs i
    simp (disch := omega) only [show decide ((i : Int) < (xs.length : Int)) = true from dT (by omega), show decide (0 ≤ (i : Int)) = true from dT (by omega), Int.toNat_natCast, drop_strs xs i hi, List.length_cons, List.headD_cons, PV.isStr, PV.asStr, blt0, wrap1, Bool.and_true, Bool.true_and] at tree
    rw [List.drop_eq_getElem_cons hi]
    cases hin : decide ((xs[i].size : Int) > 64) with
    | true =>
      rw [hin] at tree
      rw [show frstL (xs[i] :: xs.drop (i + 1)) = 0 from idxV_in (p := fun x : ByteArray => decide ((x.size : Int) > 64)) hin, Nat.zero_add, if_pos hi]
      exact .done _ _ tree
    | false =>
      rw [hin] at tree
      rw [show frstL (xs[i] :: xs.drop (i + 1)) = frstL (xs.drop (i + 1)) + 1 from idxV_out (p := fun x : ByteArray => decide ((x.size : Int) > 64)) hin]
      have e : frstL (xs.drop (i + 1)) + (i + 1) = frstL (xs.drop (i + 1)) + 1 + i := by omega
      rw [e] at ih'
      exact .step _ _ _ tree ih'
theorem ok_IdxFL : EntryOk Tryz.prog 280 E_IdxFL := entry_of mix ok_lgb2 (lp := lp_IdxFL) (LO := LO_IdxFL) ⟨Tryz.func280, by kernel_rfl, by kernel_rfl⟩ (by kernel_rfl) fun ivs res bxs h => by
  unfold E_IdxFL at h
  split at h
  · rename_i p f
    obtain ⟨hc, he⟩ := pick1 h
    cases he
    rw [Bool.and_eq_true] at hc
    obtain ⟨xs, rfl, hx⟩ := isL_inv hc.1
    obtain rfl := Nat.eq_of_beq_eq_true hc.2
    refine ⟨oneLoop 2 (by kernel_rfl) (by kernel_rfl) (by kernel_rfl) ?_, (q_IdxFL_eq xs).trans ?_⟩
    · intro ls e ls' hl
      unfold LO_IdxFL at hl
      split at hl
      · rename_i p f n i
        cases hg : (isL p && Nat.beq f 346 && (n == ((asL p).length : Int)) && (i == 0)) with
        | false => rw [hg] at hl; simp only [pickA, Bool.false_and, cond_false] at hl; cases hl
        | true =>
          rw [hg, Bool.true_and] at hl
          simp only [Bool.and_eq_true, beq_iff_eq] at hg
          obtain ⟨⟨⟨g1, g3⟩, g4⟩, g5⟩ := hg
          obtain ⟨ys, rfl, hy⟩ := isL_inv g1
          simp only [asL_mk] at hl g4
          rw [Nat.eq_of_beq_eq_true g3, g4, g5]
          have := IdxFL_loop ys hy ys.length 0 (by omega)
          rw [List.drop_zero, Nat.add_zero] at this
          by_cases hlt : frstL ys < ys.length
          · rw [dT hlt] at hl
            rw [if_pos hlt] at this
            cases hl
            exact this
          · rw [dF hlt] at hl
            rw [if_neg hlt] at this
            cases hl
            exact this
      · cases hl
    · have e4 : asL (pL xs) = xs := asL_mk xs
      rw [e4]
      simp only [isL_mk hx, asL_mk, isL, beq_self_eq_true, Bool.and_true, Bool.true_and, Nat.beq_refl]
      by_cases hlt : frstL xs < xs.length
      · rw [dT hlt, if_pos hlt]
        rfl
      · rw [dF hlt, if_neg hlt]
        rfl
  · cases h
theorem ok_lgb3 : EntriesOk Tryz.prog lgb3 := ⟨ok_IdxFL, ok_lgb2⟩
theorem ok_ContFL : EntryOk Tryz.prog 182 E_ContFL := entry_of mix ok_lgb3 (lp := []) (LO := LO0) ⟨Tryz.func182, by kernel_rfl, by kernel_rfl⟩ (by kernel_rfl) fun ivs res bxs h => by
  unfold E_ContFL at h
  split at h
  · rename_i p f
    obtain ⟨hc, he⟩ := pick1 h
    cases he
    rw [Bool.and_eq_true] at hc
    obtain ⟨xs, rfl, hx⟩ := isL_inv hc.1
    obtain rfl := Nat.eq_of_beq_eq_true hc.2
    refine ⟨noLoop (by kernel_rfl), (q_ContFL_eq xs).trans ?_⟩
    have e4 : asL (pL xs) = xs := asL_mk xs
    rw [e4]
    simp only [isL_mk hx, asL_mk, isL, ifIdxV]
    rfl
  · cases h
theorem ok_lgb4 : EntriesOk Tryz.prog lgb4 := ⟨ok_ContFL, ok_lgb3⟩
theorem ok_longL : EntryOk Tryz.prog 266 E_longL := entry_of mix ok_lgb4 (lp := []) (LO := LO0) ⟨Tryz.func266, by kernel_rfl, by kernel_rfl⟩ (by kernel_rfl) fun ivs res bxs h => by
  unfold E_longL at h
  split at h
  · rename_i p
    obtain ⟨hc, he⟩ := pick1 h
    cases he
    obtain ⟨xs, rfl, hx⟩ := isL_inv hc
    refine ⟨noLoop (by kernel_rfl), (q_longL_eq xs).trans ?_⟩
    have e4 : asL (pL xs) = xs := asL_mk xs
    rw [e4]
    simp only [isL_mk hx, asL_mk, isL]
    rfl
  · cases h
end
section
open Go.RowKit
set_option linter.unusedVariables false
set_option linter.unusedSimpArgs false
noncomputable def bab0 : List (FuncId × Entry) := (266, E_longL) :: ibc1
noncomputable def q_imageOk (br : Br) (i : ImT) := evB br Tryz.prog bab0 [] LO0 Tryz.f170 [cP ((pIm i))]
noncomputable def E_imageOk : Entry := fun ivs => match ivs with
  | [.cv (.pv (p_i))] =>
    [(isIm p_i, cB (imgB (asIm p_i)), [])]
  | _ => []
noncomputable def bab1 : List (FuncId × Entry) := (170, E_imageOk) :: bab0
def imChainC : Option ImT → List ImT → Bool
  | _, [] => true
  | p, i :: l => imgB i && (match p with | none => true | some j => decide (cmpLoc j.name j.subs i.name i.subs < 0)) && imChainC (some i) l
def prevIm (l : List ImT) (i : Nat) : Option ImT := if i = 0 then none else l[i - 1]?
abbrev lp_ImagesOk : List (Nat × List Nat × List Nat) := [(2, [0, 5, 6, 7], [0, 2])]
noncomputable def LO_ImagesOk_2 (ls : LS) : List (Bool × Ex × LS) := match ls with
  | [(.pv (p_l), none), (.pv (p_u), none), (.pv (.int .i64 n), none), (.pv (.int .i64 i), none)] =>
    [(isIms p_l && isIms p_u && (n == ((asIms p_u).length)) && (i == (0)) && holds ((asIms p_l) = (asIms p_u)) && !imChainC none (asIms p_u), .ret, [aP (pIms (asIms p_u)), aB false]),
     (isIms p_l && isIms p_u && (n == ((asIms p_u).length)) && (i == (0)) && holds ((asIms p_l) = (asIms p_u)) && imChainC none (asIms p_u), .exit 0, [aP (pIms (asIms p_u)), aX])]
  | _ => []
noncomputable def LO_ImagesOk : LoopT := fun k ls => bif Nat.beq k 2 then LO_ImagesOk_2 ls else []
noncomputable def r_ImagesOk (br : Br) (l : List ImT) (u : List ImT) (i : Int) := rdB br Tryz.prog bab1 lp_ImagesOk LO_ImagesOk Tryz.f82 2 [] [aP ((pIms l)), aP ((pIms u)), aP (.int .i64 (u.length)), aP (.int .i64 i)]
noncomputable def q_ImagesOk (br : Br) (l : List ImT) := evB br Tryz.prog bab1 lp_ImagesOk LO_ImagesOk Tryz.f82 [cP ((pIms l))]
noncomputable def E_ImagesOk : Entry := fun ivs => match ivs with
  | [.cv (.pv (p_l))] =>
    [(isIms p_l, cB (imgsB (asIms p_l)), [])]
  | _ => []
noncomputable def bab2 : List (FuncId × Entry) := (82, E_ImagesOk) :: bab1
noncomputable def E_DelNd : Entry := fun ivs => match ivs with
  | [.cv (.lst 3 e n l true), .cv (.pv (.int .i64 i)), .cv (.pv (.int .i64 j))] =>
    [(Nat.beq e 33 && decide (0 ≤ i) && decide (i < j) && decide (j ≤ (n : Int)) && decide (n ≤ 1000000), .cv (.lst 3 33 (n - (j.toNat - i.toNat)) (l.take (i.toNat * 3) ++ l.drop (j.toNat * 3)) true), [])]
  | _ => []
noncomputable def bab3 : List (FuncId × Entry) := (171, E_DelNd) :: bab2
end
section
set_option linter.unusedVariables false
set_option maxRecDepth 100000
theorem r_ImagesOk_eq (l : List ImT) (u : List ImT) (i : Int) : r_ImagesOk brC l u i =
 brC (decide (i < (↑(List.length u) : Int)))
 (brC (decide (0 ≤ i) && decide (i < (↑(List.length u) : Int)))
 (brC (Nat.ble 6 (List.length (List.drop (Int.toNat i * 6) (encIm u))) && (PV.isStr (List.headD (List.drop (Int.toNat i * 6) (encIm u)) PV.nilp) && (PV.isSl (List.headD (List.tail (List.drop (Int.toNat i * 6) (encIm u))) PV.nilp) && (PV.isBool (List.headD (List.tail (List.tail (List.drop (Int.toNat i * 6) (encIm u)))) PV.nilp) && (PV.isStr (List.headD (List.tail (List.tail (List.tail (List.drop (Int.toNat i * 6) (encIm u))))) PV.nilp) && (PV.isBool (List.headD (List.tail (List.tail (List.tail (List.tail (List.drop (Int.toNat i * 6) (encIm u)))))) PV.nilp) && (PV.isStr (List.headD (List.tail (List.tail (List.tail (List.tail (List.tail (List.drop (Int.toNat i * 6) (encIm u))))))) PV.nilp) && true && true) && true) && true) && true) && true) && true) && true)
 (brC (isIm (PV.agg [PV.str (PV.asStr (List.headD (List.drop (Int.toNat i * 6) (encIm u)) PV.nilp)), PV.sl (PV.slN (List.headD (List.tail (List.drop (Int.toNat i * 6) (encIm u))) PV.nilp)) (PV.slL (List.headD (List.tail (List.drop (Int.toNat i * 6) (encIm u))) PV.nilp)), PV.bool (PV.asBool (List.headD (List.tail (List.tail (List.drop (Int.toNat i * 6) (encIm u)))) PV.nilp)), PV.str (PV.asStr (List.headD (List.tail (List.tail (List.tail (List.drop (Int.toNat i * 6) (encIm u))))) PV.nilp)), PV.bool (PV.asBool (List.headD (List.tail (List.tail (List.tail (List.tail (List.drop (Int.toNat i * 6) (encIm u)))))) PV.nilp)), PV.str (PV.asStr (List.headD (List.tail (List.tail (List.tail (List.tail (List.tail (List.drop (Int.toNat i * 6) (encIm u))))))) PV.nilp))]))
 (brC (!imgB (asIm (PV.agg [PV.str (PV.asStr (List.headD (List.drop (Int.toNat i * 6) (encIm u)) PV.nilp)), PV.sl (PV.slN (List.headD (List.tail (List.drop (Int.toNat i * 6) (encIm u))) PV.nilp)) (PV.slL (List.headD (List.tail (List.drop (Int.toNat i * 6) (encIm u))) PV.nilp)), PV.bool (PV.asBool (List.headD (List.tail (List.tail (List.drop (Int.toNat i * 6) (encIm u)))) PV.nilp)), PV.str (PV.asStr (List.headD (List.tail (List.tail (List.tail (List.drop (Int.toNat i * 6) (encIm u))))) PV.nilp)), PV.bool (PV.asBool (List.headD (List.tail (List.tail (List.tail (List.tail (List.drop (Int.toNat i * 6) (encIm u)))))) PV.nilp)), PV.str (PV.asStr (List.headD (List.tail (List.tail (List.tail (List.tail (List.tail (List.drop (Int.toNat i * 6) (encIm u))))))) PV.nilp))])))
 (some (Sum.inr (Ex.ret, [(AV.pv (PV.sl (List.length l) (encIm l)), none), (AV.pv (PV.bool false), none)])))
 (brC (decide (i > 0))
 (brC (decide (0 ≤ IntKind.wrap IntKind.i64 (i - 1)) && decide (IntKind.wrap IntKind.i64 (i - 1) < (↑(List.length l) : Int)))
 (brC (Nat.blt 0 (List.length (List.drop 0 (List.drop (Int.toNat (IntKind.wrap IntKind.i64 (i - 1)) * 6) (encIm l)))) && PV.isStr (List.headD (List.drop 0 (List.drop (Int.toNat (IntKind.wrap IntKind.i64 (i - 1)) * 6) (encIm l))) PV.nilp) && true)
 (brC (decide (0 ≤ IntKind.wrap IntKind.i64 (i - 1)) && decide (IntKind.wrap IntKind.i64 (i - 1) < (↑(List.length l) : Int)))
 (brC (Nat.blt 0 (List.length (List.drop 1 (List.drop (Int.toNat (IntKind.wrap IntKind.i64 (i - 1)) * 6) (encIm l)))) && PV.isSl (List.headD (List.drop 1 (List.drop (Int.toNat (IntKind.wrap IntKind.i64 (i - 1)) * 6) (encIm l))) PV.nilp) && true)
 (brC (isL (PV.sl (PV.slN (List.headD (List.drop 1 (List.drop (Int.toNat (IntKind.wrap IntKind.i64 (i - 1)) * 6) (encIm l))) PV.nilp)) (PV.slL (List.headD (List.drop 1 (List.drop (Int.toNat (IntKind.wrap IntKind.i64 (i - 1)) * 6) (encIm l))) PV.nilp))) && isL (PV.sl (PV.slN (List.headD (List.tail (List.drop (Int.toNat i * 6) (encIm u))) PV.nilp)) (PV.slL (List.headD (List.tail (List.drop (Int.toNat i * 6) (encIm u))) PV.nilp))))
 (brC (decide (cmpLoc (PV.asStr (List.headD (List.drop 0 (List.drop (Int.toNat (IntKind.wrap IntKind.i64 (i - 1)) * 6) (encIm l))) PV.nilp)) (asL (PV.sl (PV.slN (List.headD (List.drop 1 (List.drop (Int.toNat (IntKind.wrap IntKind.i64 (i - 1)) * 6) (encIm l))) PV.nilp)) (PV.slL (List.headD (List.drop 1 (List.drop (Int.toNat (IntKind.wrap IntKind.i64 (i - 1)) * 6) (encIm l))) PV.nilp)))) (PV.asStr (List.headD (List.drop (Int.toNat i * 6) (encIm u)) PV.nilp)) (asL (PV.sl (PV.slN (List.headD (List.tail (List.drop (Int.toNat i * 6) (encIm u))) PV.nilp)) (PV.slL (List.headD (List.tail (List.drop (Int.toNat i * 6) (encIm u))) PV.nilp)))) ≥ 0))
 (some (Sum.inr (Ex.ret, [(AV.pv (PV.sl (List.length l) (encIm l)), none), (AV.pv (PV.bool false), none)])))
 (some (Sum.inl [(AV.pv (PV.sl (List.length l) (encIm l)), none), (AV.pv (PV.sl (List.length u) (encIm u)), none), (AV.pv (PV.int IntKind.i64 (↑(List.length u) : Int)), none), (AV.pv (PV.int IntKind.i64 (IntKind.wrap IntKind.i64 (i + 1))), none)])))
 (none))
 (none))
 (none))
 (none))
 (none))
 (some (Sum.inl [(AV.pv (PV.sl (List.length l) (encIm l)), none), (AV.pv (PV.sl (List.length u) (encIm u)), none), (AV.pv (PV.int IntKind.i64 (↑(List.length u) : Int)), none), (AV.pv (PV.int IntKind.i64 (IntKind.wrap IntKind.i64 (i + 1))), none)]))))
 (none))
 (none))
 (none))
 (some (Sum.inr (Ex.exit 0, [(AV.pv (PV.sl (List.length l) (encIm l)), none), (AV.bad, none)]))) := by kernel_rfl
theorem q_ImagesOk_eq (l : List ImT) : q_ImagesOk brC l =
 brC (isIms (pIms l) && isIms (pIms l) && (↑(List.length l) : Int) == (↑(List.length (asIms (pIms l))) : Int) && 0 == 0 && holds (asIms (pIms l) = asIms (pIms l)) && !imChainC none (asIms (pIms l)))
 (some ((IV.cv (CV.pv (PV.bool false)), [])))
 (brC (isIms (pIms l) && isIms (pIms l) && (↑(List.length l) : Int) == (↑(List.length (asIms (pIms l))) : Int) && 0 == 0 && holds (asIms (pIms l) = asIms (pIms l)) && imChainC none (asIms (pIms l)))
 (some ((IV.cv (CV.pv (PV.bool (decide ((↑(List.length (asIms (pIms l))) : Int) ≤ 240)))), [])))
 (none)) := by kernel_rfl
theorem q_imageOk_eq (i : ImT) : q_imageOk brC i =
 brC (decide (ByteArray.size (ImT.name i) ≤ 1000000) && isL (PV.sl (List.length (ImT.subs i)) (List.map PV.str (ImT.subs i))))
 (brC (!placeB (ImT.name i) (asL (PV.sl (List.length (ImT.subs i)) (List.map PV.str (ImT.subs i)))))
 (some ((IV.cv (CV.pv (PV.bool false)), [])))
 (brC (isL (PV.sl 2 [PV.str (ImT.was i), PV.str (ImT.is i)]))
 (brC (decide (frstL (asL (PV.sl 2 [PV.str (ImT.was i), PV.str (ImT.is i)])) < List.length (asL (PV.sl 2 [PV.str (ImT.was i), PV.str (ImT.is i)]))))
 (some ((IV.cv (CV.pv (PV.bool false)), [])))
 (brC (!ImT.had i)
 (brC (!ByteArray.toList (ImT.was i) == [])
 (some ((IV.cv (CV.pv (PV.bool false)), [])))
 (brC (!ImT.has i)
 (brC (!ByteArray.toList (ImT.is i) == [])
 (some ((IV.cv (CV.pv (PV.bool false)), [])))
 (brC (!ImT.had i == ImT.has i)
 (some ((IV.cv (CV.pv (PV.bool true)), [])))
 (some ((IV.cv (CV.pv (PV.bool !ByteArray.toList (ImT.was i) == ByteArray.toList (ImT.is i))), [])))))
 (brC (!ImT.had i == ImT.has i)
 (some ((IV.cv (CV.pv (PV.bool true)), [])))
 (some ((IV.cv (CV.pv (PV.bool !ByteArray.toList (ImT.was i) == ByteArray.toList (ImT.is i))), []))))))
 (brC (!ImT.has i)
 (brC (!ByteArray.toList (ImT.is i) == [])
 (some ((IV.cv (CV.pv (PV.bool false)), [])))
 (brC (!ImT.had i == ImT.has i)
 (some ((IV.cv (CV.pv (PV.bool true)), [])))
 (some ((IV.cv (CV.pv (PV.bool !ByteArray.toList (ImT.was i) == ByteArray.toList (ImT.is i))), [])))))
 (brC (!ImT.had i == ImT.has i)
 (some ((IV.cv (CV.pv (PV.bool true)), [])))
 (some ((IV.cv (CV.pv (PV.bool !ByteArray.toList (ImT.was i) == ByteArray.toList (ImT.is i))), [])))))))
 (none)))
 (none) := by kernel_rfl
end
section
open Go.RowKit
set_option linter.unusedVariables false
set_option linter.unusedSimpArgs false
set_option maxRecDepth 100000
theorem ok_bab0 : EntriesOk Tryz.prog bab0 := ⟨ok_longL, ok_ibc1⟩
theorem long_two (a b : ByteArray) : decide (frstL [a, b] < [a, b].length) = (decide ((a.size : Int) > 64) || decide ((b.size : Int) > 64)) := by
  unfold frstL
  rw [idxV_any]
  simp
theorem ok_imageOk : EntryOk Tryz.prog 170 E_imageOk := entry_of mix ok_bab0 (lp := []) (LO := LO0) ⟨Tryz.func170, by kernel_rfl, by kernel_rfl⟩ (by kernel_rfl) fun ivs res bxs h => by
  unfold E_imageOk at h
  split at h
  · rename_i p_i
    obtain ⟨hc, he⟩ := pick1 h
    cases he
    have k0 := hc
    obtain ⟨i, rfl, h_i⟩ := isE_inv k0
    have e_i : asIm (pIm i) = i := asIm_mk i
    have i_i := isIm_mk h_i
    try simp only [e_i]
    obtain ⟨g1, g2, g3, g4⟩ := h_i
    have iL := isL_mk g2
    have x2 : shL [i.was, i.is] := ⟨by simp, fun s hs => by
      rcases List.mem_cons.1 hs with rfl | hs
      · exact g3
      · rw [List.mem_singleton.1 hs]; exact g4⟩
    have i2 : isL (PV.sl 2 [PV.str i.was, PV.str i.is]) = true := isL_mk x2
    have a2 : asL (PV.sl 2 [PV.str i.was, PV.str i.is]) = [i.was, i.is] := asL_mk [i.was, i.is]
    refine ⟨noLoop (by kernel_rfl), (q_imageOk_eq i).trans ?_⟩
    rw [i2, a2, long_two]
    simp (disch := first | omega | rfl) only [isL, iL, asL_mk, dT, Bool.and_true, Bool.true_and]
    unfold imgB
    have e0 : (⟨#[]⟩ : ByteArray).toList = [] := ByteArray.toList_mk []
    unfold sEq
    rw [e0]
    have l1 : decide ((i.was.size : Int) > 64) = !decide (i.was.size ≤ 64) := by by_cases h : i.was.size ≤ 64 <;> simp [h] <;> omega
    have l2 : decide ((i.is.size : Int) > 64) = !decide (i.is.size ≤ 64) := by by_cases h : i.is.size ≤ 64 <;> simp [h] <;> omega
    rw [l1, l2]
    generalize placeB i.name i.subs = p
    generalize decide (i.was.size ≤ 64) = u
    generalize decide (i.is.size ≤ 64) = v
    generalize (i.was.toList == ([] : List UInt8)) = a
    generalize (i.is.toList == ([] : List UInt8)) = b
    generalize (i.was.toList == i.is.toList) = c
    generalize i.had = d
    generalize i.has = e
    cases p <;> cases u <;> cases v <;> cases d <;> cases e <;> cases a <;> cases b <;> cases c <;> rfl
  · cases h
theorem ok_bab1 : EntriesOk Tryz.prog bab1 := ⟨ok_imageOk, ok_bab0⟩
theorem imChainC_eq : ∀ (l : List ImT) (p : Option ImT), imChainC p l = imChain p l
  | [], _ => rfl
  | i :: l, p => by
    unfold imChainC imChain
    rw [imChainC_eq l (some i)]
    cases p with
    | none => rfl
    | some j =>
      dsimp only
      rw [cmpLoc_neg]
theorem ImagesOk_loop (t : List ImT) (h : shIms t) : ∀ (m i : Nat), m + i = t.length → LoopsTo (rdB brC Tryz.prog bab1 lp_ImagesOk LO_ImagesOk Tryz.f82 2 []) [aP (pIms t), aP (pIms t), aI t.length, aI i] (if imChainC (prevIm t i) (t.drop i) = true then (.exit 0, [aP (pIms t), aX]) else (.ret, [aP (pIms t), aB false])) := by
  have hl := h.1
  intro m
  induction m with
  | zero =>
    intro i hm
    obtain rfl : i = t.length := by omega
    rw [List.drop_length]
    refine .done _ _ ((r_ImagesOk_eq t t t.length).trans ?_)
    rw [dF (by omega)]
    rfl
  | succ m ih =>
    intro i hm
    have hi : i < t.length := by omega
    have hs := shIm_at h hi
    have ih' := ih (i + 1) (by omega)
    have hp1 : prevIm t (i + 1) = some t[i] := by unfold prevIm; rw [if_neg (by omega)]; simp [hi]
    rw [hp1] at ih'
    rw [List.drop_eq_getElem_cons hi]
    unfold imChainC
    have tree := r_ImagesOk_eq t t i
    simp (disch := first | omega | rfl) only [drop_encIm t i hi, isIm_mk hs, asIm_mk, asL_mk, isL_mk hs.2.1, dT, Int.toNat_natCast, List.length_cons, List.headD_cons, List.tail_cons, List.drop_zero, List.drop_succ_cons, PV.isStr, PV.asStr, PV.isSl, PV.slN, PV.slL, PV.isInt, PV.asInt, PV.isBool, PV.asBool, ble1, ble2, ble3, ble4, ble5, ble6, blt0, wrap1, Bool.and_true, Bool.true_and] at tree
    cases hn : imgB t[i] with
    | false =>
      rw [hn] at tree
      simp only [Bool.false_and, if_neg Bool.false_ne_true]
      exact .done _ _ tree
    | true =>
      rw [hn] at tree
      by_cases h0 : i = 0
      · subst h0
        have hp : prevIm t 0 = none := rfl
        rw [hp]
        simp only [Bool.true_and]
        rw [dF (by omega)] at tree
        exact .step _ _ _ tree ih'
      · have hj : i - 1 < t.length := by omega
        have hsj := shIm_at h hj
        have w1 : IntKind.wrap .i64 ((i : Int) - 1) = ((i - 1 : Nat) : Int) := by rw [wrapI (by omega) (by omega)]; omega
        have hp : prevIm t i = some t[i - 1] := by unfold prevIm; rw [if_neg h0]; simp [hj]
        rw [hp]
        simp (disch := first | omega | rfl) only [w1, drop_encIm t (i - 1) hj, asL_mk, isL_mk hsj.2.1, dT, Int.toNat_natCast, List.length_cons, List.headD_cons, List.tail_cons, List.drop_zero, List.drop_succ_cons, PV.isStr, PV.asStr, PV.isSl, PV.slN, PV.slL, PV.isInt, PV.asInt, PV.isBool, PV.asBool, ble1, ble2, ble3, ble4, ble5, ble6, blt0, wrap1, Bool.and_true, Bool.true_and] at tree
        dsimp only
        by_cases hlt : cmpLoc t[i - 1].name t[i - 1].subs t[i].name t[i].subs < 0
        · rw [dF (show ¬ cmpLoc t[i - 1].name t[i - 1].subs t[i].name t[i].subs ≥ 0 by omega)] at tree
          simp only [dT hlt, Bool.true_and]
          exact .step _ _ _ tree ih'
        · rw [dT (show cmpLoc t[i - 1].name t[i - 1].subs t[i].name t[i].subs ≥ 0 by omega)] at tree
          simp only [dF hlt, Bool.false_and, Bool.true_and, if_neg Bool.false_ne_true]
          exact .done _ _ tree
theorem loops_ImagesOk : ∀ b ∈ loopsIn (bodyOf Tryz.f82), LoopOk Tryz.prog (tabL bab1) (OL lp_ImagesOk) Tryz.f82.ntmps (pbOf []) LO_ImagesOk b := by
  refine oneLoop 2 (by kernel_rfl) (by kernel_rfl) (by kernel_rfl) ?_
  intro ls e ls' hl
  replace hl : pickA (LO_ImagesOk_2 ls) = some (e, ls') := hl
  unfold LO_ImagesOk_2 at hl
  split at hl
  · rename_i p_l p_u n i
    rcases pick2 hl with ⟨hc, he⟩ | ⟨hn, hc, he⟩
    · cases he
      obtain ⟨hc, k5⟩ := andE hc
      obtain ⟨hc, k4⟩ := andE hc
      obtain ⟨hc, k3⟩ := andE hc
      obtain ⟨hc, k2⟩ := andE hc
      obtain ⟨hc, k1⟩ := andE hc
      have k0 := hc
      obtain ⟨l, rfl, h_l⟩ := isE_inv k0
      have e_l : asIms (pIms l) = l := asIms_mk l
      have i_l := isIms_mk h_l
      obtain ⟨u, rfl, h_u⟩ := isE_inv k1
      have e_u : asIms (pIms u) = u := asIms_mk u
      have i_u := isIms_mk h_u
      try simp only [e_l, e_u] at k2
      obtain rfl := eq_of_beq k2
      try simp only [e_l, e_u] at k3
      obtain rfl := eq_of_beq k3
      try simp only [e_l, e_u] at k4
      have c0 := holds_inv k4
      try simp only [e_l, e_u] at k5
      have c1 := k5
      try simp only [e_l, e_u]
      subst c0
      have := ImagesOk_loop l h_l l.length 0 (by omega)
      rw [List.drop_zero, show prevIm l 0 = none from rfl] at this
      rw [Bool.not_eq_true'] at c1
      rw [c1, if_neg Bool.false_ne_true] at this
      exact this
    · cases he
      obtain ⟨hc, k5⟩ := andE hc
      obtain ⟨hc, k4⟩ := andE hc
      obtain ⟨hc, k3⟩ := andE hc
      obtain ⟨hc, k2⟩ := andE hc
      obtain ⟨hc, k1⟩ := andE hc
      have k0 := hc
      obtain ⟨l, rfl, h_l⟩ := isE_inv k0
      have e_l : asIms (pIms l) = l := asIms_mk l
      have i_l := isIms_mk h_l
      obtain ⟨u, rfl, h_u⟩ := isE_inv k1
      have e_u : asIms (pIms u) = u := asIms_mk u
      have i_u := isIms_mk h_u
      try simp only [e_l, e_u] at k2
      obtain rfl := eq_of_beq k2
      try simp only [e_l, e_u] at k3
      obtain rfl := eq_of_beq k3
      try simp only [e_l, e_u] at k4
      have c0 := holds_inv k4
      try simp only [e_l, e_u] at k5
      have c1 := k5
      try simp only [e_l, e_u]
      subst c0
      have := ImagesOk_loop l h_l l.length 0 (by omega)
      rw [List.drop_zero, show prevIm l 0 = none from rfl, c1, if_pos rfl] at this
      exact this
  · cases hl
theorem ok_ImagesOk : EntryOk Tryz.prog 82 E_ImagesOk := entry_of mix ok_bab1 (lp := lp_ImagesOk) (LO := LO_ImagesOk) ⟨Tryz.func82, by kernel_rfl, by kernel_rfl⟩ (by kernel_rfl) fun ivs res bxs h => by
  unfold E_ImagesOk at h
  split at h
  · rename_i p_l
    obtain ⟨hc, he⟩ := pick1 h
    cases he
    have k0 := hc
    obtain ⟨l, rfl, h_l⟩ := isE_inv k0
    have e_l : asIms (pIms l) = l := asIms_mk l
    have i_l := isIms_mk h_l
    try simp only [e_l]
    refine ⟨loops_ImagesOk, (q_ImagesOk_eq l).trans ?_⟩
    have hl := h_l.1
    have hr : holds (l = l) = true := holds_mk rfl
    simp only [hr, holds_true, isIms, i_l, asIms_mk, e_l, beq_self_eq_true, Bool.and_true, Bool.true_and, eqP_mk, imChainC_eq]
    unfold imgsB
    cases imChain none l with
    | false => rfl
    | true =>
      by_cases h4 : l.length ≤ 240
      · rw [dT h4, dT (show (l.length : Int) ≤ 240 by omega)]; rfl
      · rw [dF h4, dF (show ¬ (l.length : Int) ≤ 240 by omega)]; rfl
  · cases h
theorem ok_bab2 : EntriesOk Tryz.prog bab2 := ⟨ok_ImagesOk, ok_bab1⟩
theorem ok_DelNd : EntryOk Tryz.prog 171 E_DelNd := ⟨⟨_, Tryz.func171, by kernel_rfl, by kernel_rfl⟩, fun ivs res bxs h => by
  unfold E_DelNd at h
  split at h
  · rename_i e n l i j
    obtain ⟨hc, he⟩ := pick1 h
    cases he
    simp only [Bool.and_eq_true, decide_eq_true_eq] at hc
    obtain ⟨⟨⟨⟨h1, h2⟩, h3⟩, h4⟩, h5⟩ := hc
    obtain ⟨k, rfl⟩ := Int.eq_ofNat_of_zero_le h2
    obtain ⟨q, rfl⟩ := Int.eq_ofNat_of_zero_le (show 0 ≤ j by omega)
    rw [Nat.eq_of_beq_eq_true h1]
    exact contract_delete (by decide) delN_walk (show k < q by omega) (by omega) h5
  · cases h⟩
theorem ok_bab3 : EntriesOk Tryz.prog bab3 := ⟨ok_DelNd, ok_bab2⟩
end
section
open Go.RowKit
set_option linter.unusedVariables false
set_option linter.unusedSimpArgs false
noncomputable def redoV (t : List NodeT) (l : List ImT) : List NodeT × Int := if (treeB t && imgsB l) = true then (if (redoL t l).2 = 0 then redoL t l else ([], (redoL t l).2)) else ([], 1)
abbrev lp_redo : List (Nat × List Nat × List Nat) := [(1000000, [], [71]), (1000001, [1200, 1208], []), (2000023, [0, 0, 25], []), (2000051, [0, 0, 53], []), (2, [0, 1, 16, 17, 18], [0, 1, 4]), (9, [0, 1, 44, 45, 46], [0, 1]), (16, [0, 79, 80, 81], [0, 4])]
noncomputable def LO_redo_2 (ls : LS) : List (Bool × Ex × LS) := match ls with
  | [(.ptr x0 0, some (.box [.lst 3 e_t n_t l_t true])), (.pv (p_l), none), (.pv (p_u), none), (.pv (.int .i64 n), none), (.pv (.int .i64 i), none)] =>
    [(isNs (.sl n_t l_t) && isIms p_l && isIms p_u && Nat.beq e_t 33 && Nat.beq x0 0 && (n == ((asIms p_u).length)) && (i == (0)) && holds ((asIms p_l) = (asIms p_u)) && treeB (asNs (.sl n_t l_t)) && imgsB (asIms p_u) && !fitsL (asNs (.sl n_t l_t)) (asIms p_u), .ret, [aBx 0 [lN (asNs (.sl n_t l_t))], aP (pIms (asIms p_u)), aI 5]),
     (isNs (.sl n_t l_t) && isIms p_l && isIms p_u && Nat.beq e_t 33 && Nat.beq x0 0 && (n == ((asIms p_u).length)) && (i == (0)) && holds ((asIms p_l) = (asIms p_u)) && treeB (asNs (.sl n_t l_t)) && imgsB (asIms p_u) && fitsL (asNs (.sl n_t l_t)) (asIms p_u), .exit 0, [aBx 0 [lN (asNs (.sl n_t l_t))], aP (pIms (asIms p_u)), aX])]
  | [(.ptr x0 0, some (.box [.pv (.nils)])), (.pv (p_l), none), (.pv (p_u), none), (.pv (.int .i64 n), none), (.pv (.int .i64 i), none)] =>
    [(isIms p_l && isIms p_u && Nat.beq x0 0 && (n == ((asIms p_u).length)) && (i == (0)) && holds ((asIms p_l) = (asIms p_u)) && imgsB (asIms p_u) && !fitsL [] (asIms p_u), .ret, [aBx 0 [.pv .nils], aP (pIms (asIms p_u)), aI 5]),
     (isIms p_l && isIms p_u && Nat.beq x0 0 && (n == ((asIms p_u).length)) && (i == (0)) && holds ((asIms p_l) = (asIms p_u)) && imgsB (asIms p_u) && fitsL [] (asIms p_u), .exit 0, [aBx 0 [.pv .nils], aP (pIms (asIms p_u)), aX])]
  | _ => []
noncomputable def LO_redo_9 (ls : LS) : List (Bool × Ex × LS) := match ls with
  | [(.ptr x0 0, some (.box [.lst 3 e_t n_t l_t true])), (.pv (p_l), none), (.pv (p_u), none), (.pv (.int .i64 n), none), (.pv (.int .i64 i), none)] =>
    [(isNs (.sl n_t l_t) && isIms p_l && isIms p_u && Nat.beq e_t 33 && Nat.beq x0 0 && (n == ((asIms p_u).length)) && (i == (0)) && holds ((asIms p_l) = (asIms p_u)) && treeB (asNs (.sl n_t l_t)) && imgsB (asIms p_u), .exit 2, [aBx 0 [lN (delL (asIms p_u) (asNs (.sl n_t l_t)))], aP (pIms (asIms p_u))])]
  | [(.ptr x0 0, some (.box [.pv (.nils)])), (.pv (p_l), none), (.pv (p_u), none), (.pv (.int .i64 n), none), (.pv (.int .i64 i), none)] =>
    [(isIms p_l && isIms p_u && Nat.beq x0 0 && (n == ((asIms p_u).length)) && (i == (0)) && holds ((asIms p_l) = (asIms p_u)) && imgsB (asIms p_u), .exit 2, [aBx 0 [.pv .nils], aP (pIms (asIms p_u))])]
  | _ => []
noncomputable def LO_redo_16 (ls : LS) : List (Bool × Ex × LS) := match ls with
  | [(.ptr x0 0, some (.box [.lst 3 e_t n_t l_t true])), (.pv (p_u), none), (.pv (.int .i64 n), none), (.pv (.int .i64 i), none)] =>
    [(isNs (.sl n_t l_t) && isIms p_u && Nat.beq e_t 33 && Nat.beq x0 0 && (n == ((asIms p_u).length)) && (i == (0)) && treeB (asNs (.sl n_t l_t)) && imgsB (asIms p_u) && decide ((putL (asIms p_u) (asNs (.sl n_t l_t))).2 = 0), .exit 4, [aBx 0 [lN (putL (asIms p_u) (asNs (.sl n_t l_t))).1], aX]),
     (isNs (.sl n_t l_t) && isIms p_u && Nat.beq e_t 33 && Nat.beq x0 0 && (n == ((asIms p_u).length)) && (i == (0)) && treeB (asNs (.sl n_t l_t)) && imgsB (asIms p_u) && !decide ((putL (asIms p_u) (asNs (.sl n_t l_t))).2 = 0), .ret, [aBx 0 [lN (putL (asIms p_u) (asNs (.sl n_t l_t))).1], aI (putL (asIms p_u) (asNs (.sl n_t l_t))).2])]
  | [(.ptr x0 0, some (.box [.pv (.nils)])), (.pv (p_u), none), (.pv (.int .i64 n), none), (.pv (.int .i64 i), none)] =>
    [(isIms p_u && Nat.beq x0 0 && (n == ((asIms p_u).length)) && (i == (0)) && imgsB (asIms p_u) && holds ((putL (asIms p_u) []).1 = []), .exit 4, [aBx 0 [.pv .nils], aX]),
     (isIms p_u && Nat.beq x0 0 && (n == ((asIms p_u).length)) && (i == (0)) && imgsB (asIms p_u) && !holds ((putL (asIms p_u) []).1 = []) && decide ((putL (asIms p_u) []).2 = 0), .exit 4, [aBx 0 [lN (putL (asIms p_u) []).1], aX]),
     (isIms p_u && Nat.beq x0 0 && (n == ((asIms p_u).length)) && (i == (0)) && imgsB (asIms p_u) && !holds ((putL (asIms p_u) []).1 = []) && !decide ((putL (asIms p_u) []).2 = 0), .ret, [aBx 0 [lN (putL (asIms p_u) []).1], aI (putL (asIms p_u) []).2])]
  | _ => []
noncomputable def LO_redo : LoopT := fun k ls => bif Nat.beq k 2 then LO_redo_2 ls else bif Nat.beq k 9 then LO_redo_9 ls else bif Nat.beq k 16 then LO_redo_16 ls else []
noncomputable def r_redo2 (br : Br) (t : List NodeT) (l : List ImT) (u : List ImT) (i : Int) := rdB br Tryz.prog bab3 lp_redo LO_redo Tryz.f83 2 [0] [aBx 0 [.lst 3 33 t.length (encN t) true], aP ((pIms l)), aP ((pIms u)), aP (.int .i64 (u.length)), aP (.int .i64 i)]
noncomputable def r_redo2n (br : Br) (l : List ImT) (u : List ImT) (i : Int) := rdB br Tryz.prog bab3 lp_redo LO_redo Tryz.f83 2 [0] [aBx 0 [.pv (.nils)], aP ((pIms l)), aP ((pIms u)), aP (.int .i64 (u.length)), aP (.int .i64 i)]
noncomputable def r_redo9 (br : Br) (t : List NodeT) (l : List ImT) (u : List ImT) (i : Int) := rdB br Tryz.prog bab3 lp_redo LO_redo Tryz.f83 9 [0] [aBx 0 [.lst 3 33 t.length (encN t) true], aP ((pIms l)), aP ((pIms u)), aP (.int .i64 (u.length)), aP (.int .i64 i)]
noncomputable def r_redo9n (br : Br) (l : List ImT) (u : List ImT) (i : Int) := rdB br Tryz.prog bab3 lp_redo LO_redo Tryz.f83 9 [0] [aBx 0 [.pv (.nils)], aP ((pIms l)), aP ((pIms u)), aP (.int .i64 (u.length)), aP (.int .i64 i)]
noncomputable def r_redo16 (br : Br) (t : List NodeT) (u : List ImT) (i : Int) := rdB br Tryz.prog bab3 lp_redo LO_redo Tryz.f83 16 [0] [aBx 0 [.lst 3 33 t.length (encN t) true], aP ((pIms u)), aP (.int .i64 (u.length)), aP (.int .i64 i)]
noncomputable def r_redo16n (br : Br) (u : List ImT) (i : Int) := rdB br Tryz.prog bab3 lp_redo LO_redo Tryz.f83 16 [0] [aBx 0 [.pv (.nils)], aP ((pIms u)), aP (.int .i64 (u.length)), aP (.int .i64 i)]
noncomputable def q_redo (br : Br) (t : List NodeT) (l : List ImT) := evB br Tryz.prog bab3 lp_redo LO_redo Tryz.f83 [.box 0 [.lst 3 33 t.length (encN t) true], cP ((pIms l))]
noncomputable def q_redo0 (br : Br) (l : List ImT) := evB br Tryz.prog bab3 lp_redo LO_redo Tryz.f83 [.box 0 [.pv (.nils)], cP ((pIms l))]
noncomputable def E_redo : Entry := fun ivs => match ivs with
  | [.box 0 [.lst 3 e_t n_t l_t true], .cv (.pv (p_l))] =>
    [(isNs (.sl n_t l_t) && isIms p_l && Nat.beq e_t 33 && treeB (asNs (.sl n_t l_t)) && imgsB (asIms p_l), cI (redoL (asNs (.sl n_t l_t)) (asIms p_l)).2, [[lN (redoL (asNs (.sl n_t l_t)) (asIms p_l)).1]])]
  | [.box 0 [.pv (.nils)], .cv (.pv (p_l))] =>
    [(isIms p_l && imgsB (asIms p_l) && holds ((redoL [] (asIms p_l)).1 = []), cI (redoL [] (asIms p_l)).2, [[.pv .nils]]),
     (isIms p_l && imgsB (asIms p_l) && !holds ((redoL [] (asIms p_l)).1 = []), cI (redoL [] (asIms p_l)).2, [[lN (redoL [] (asIms p_l)).1]])]
  | _ => []
noncomputable def bbb0 : List (FuncId × Entry) := (83, E_redo) :: bab3
abbrev lp_Redo : List (Nat × List Nat × List Nat) := [(1000000, [], [25])]
noncomputable def q_Redo (br : Br) (t : List NodeT) (l : List ImT) := evB br Tryz.prog bbb0 lp_Redo LO0 Tryz.f21 [cP ((pT t)), cP ((pIms l))]
noncomputable def E_Redo : Entry := fun ivs => match ivs with
  | [.cv (.pv (p_t)), .cv (.pv (p_l))] =>
    [(isT p_t && isIms p_l, .tup [.agg [.pv (pNs (redoV (asT p_t) (asIms p_l)).1)], cI (redoV (asT p_t) (asIms p_l)).2], [])]
  | _ => []
noncomputable def bbb1 : List (FuncId × Entry) := (21, E_Redo) :: bbb0
abbrev lp_Undo : List (Nat × List Nat × List Nat) := [(3, [2, 4, 6, 10, 11, 12], [2, 4, 6])]
noncomputable def LO_Undo_3 (ls : LS) : List (Bool × Ex × LS) := match ls with
  | [(.ptr x2 0, some (.box [.pv (p_t)])), (.ptr x4 0, some (.box [.pv (.nils)])), (.own x6, some (.lst 6 e3 n3 l3 false)), (.pv (p_l), none), (.pv (.int .i64 n), none), (.pv (.int .i64 i), none)] =>
    [(isNs p_t && isIms p_l && Nat.beq x2 8192 && Nat.beq x4 16384 && Nat.beq x6 24576 && Nat.beq e3 109 && Nat.beq n3 0 && nilB l3 && (n == ((asIms p_l).length)) && (i == (0)), .exit 0, [aBx 2 [.pv (pNs (asNs p_t))], aBx 4 [.pv .nils], aL 6 6 109 ((asIms p_l).map swapI).length (encIm ((asIms p_l).map swapI))])]
  | _ => []
noncomputable def LO_Undo : LoopT := fun k ls => bif Nat.beq k 3 then LO_Undo_3 ls else []
noncomputable def r_Undo (br : Br) (t : List NodeT) (c : Nat) (cl : List PV) (l : List ImT) (i : Int) := rdB br Tryz.prog bbb1 lp_Undo LO_Undo Tryz.f22 3 [] [aBx 2 [.pv ((pNs t))], aBx 4 [.pv (.nils)], ((.own 24576, some (.lst 6 109 c cl false)) : AV × Option Ob), aP ((pIms l)), aP (.int .i64 (l.length)), aP (.int .i64 i)]
noncomputable def q_Undo (br : Br) (t : List NodeT) (l : List ImT) := evB br Tryz.prog bbb1 lp_Undo LO_Undo Tryz.f22 [cP ((pT t)), cP ((pIms l))]
noncomputable def E_Undo : Entry := fun ivs => match ivs with
  | [.cv (.pv (p_t)), .cv (.pv (p_l))] =>
    [(isT p_t && isIms p_l, .tup [.agg [.pv (pNs (redoV (asT p_t) ((asIms p_l).map swapI)).1)], cI (redoV (asT p_t) ((asIms p_l).map swapI)).2], [])]
  | _ => []
end
section
set_option linter.unusedVariables false
set_option maxRecDepth 100000
theorem q_redo_eq (t : List NodeT) (l : List ImT) : q_redo brC t l =
 brC (isNs (PV.sl (List.length t) (encN t)) && isIms (pIms l) && isIms (pIms l) && Nat.beq 33 33 && Nat.beq 0 0 && (↑(List.length l) : Int) == (↑(List.length (asIms (pIms l))) : Int) && 0 == 0 && holds (asIms (pIms l) = asIms (pIms l)) && treeB (asNs (PV.sl (List.length t) (encN t))) && imgsB (asIms (pIms l)) && !fitsL (asNs (PV.sl (List.length t) (encN t))) (asIms (pIms l)))
 (some ((IV.cv (CV.pv (PV.int IntKind.i64 (Int.ofNat 5))), [[CV.lst 3 33 (List.length (asNs (PV.sl (List.length t) (encN t)))) (encN (asNs (PV.sl (List.length t) (encN t)))) true]])))
 (brC (isNs (PV.sl (List.length t) (encN t)) && isIms (pIms l) && isIms (pIms l) && Nat.beq 33 33 && Nat.beq 0 0 && (↑(List.length l) : Int) == (↑(List.length (asIms (pIms l))) : Int) && 0 == 0 && holds (asIms (pIms l) = asIms (pIms l)) && treeB (asNs (PV.sl (List.length t) (encN t))) && imgsB (asIms (pIms l)) && fitsL (asNs (PV.sl (List.length t) (encN t))) (asIms (pIms l)))
 (brC (isNs (PV.sl (List.length (asNs (PV.sl (List.length t) (encN t)))) (encN (asNs (PV.sl (List.length t) (encN t))))) && isIms (pIms (asIms (pIms l))) && isIms (pIms (asIms (pIms l))) && Nat.beq 33 33 && Nat.beq 0 0 && (↑(List.length (asIms (pIms l))) : Int) == (↑(List.length (asIms (pIms (asIms (pIms l))))) : Int) && 0 == 0 && holds (asIms (pIms (asIms (pIms l))) = asIms (pIms (asIms (pIms l)))) && treeB (asNs (PV.sl (List.length (asNs (PV.sl (List.length t) (encN t)))) (encN (asNs (PV.sl (List.length t) (encN t)))))) && imgsB (asIms (pIms (asIms (pIms l)))))
 (brC (isNs (PV.sl (List.length (delL (asIms (pIms (asIms (pIms l)))) (asNs (PV.sl (List.length (asNs (PV.sl (List.length t) (encN t)))) (encN (asNs (PV.sl (List.length t) (encN t)))))))) (encN (delL (asIms (pIms (asIms (pIms l)))) (asNs (PV.sl (List.length (asNs (PV.sl (List.length t) (encN t)))) (encN (asNs (PV.sl (List.length t) (encN t))))))))) && isIms (pIms (asIms (pIms (asIms (pIms l))))) && Nat.beq 33 33 && Nat.beq 0 0 && (↑(List.length (asIms (pIms (asIms (pIms l))))) : Int) == (↑(List.length (asIms (pIms (asIms (pIms (asIms (pIms l))))))) : Int) && 0 == 0 && treeB (asNs (PV.sl (List.length (delL (asIms (pIms (asIms (pIms l)))) (asNs (PV.sl (List.length (asNs (PV.sl (List.length t) (encN t)))) (encN (asNs (PV.sl (List.length t) (encN t)))))))) (encN (delL (asIms (pIms (asIms (pIms l)))) (asNs (PV.sl (List.length (asNs (PV.sl (List.length t) (encN t)))) (encN (asNs (PV.sl (List.length t) (encN t)))))))))) && imgsB (asIms (pIms (asIms (pIms (asIms (pIms l)))))) && decide (Prod.snd (putL (asIms (pIms (asIms (pIms (asIms (pIms l)))))) (asNs (PV.sl (List.length (delL (asIms (pIms (asIms (pIms l)))) (asNs (PV.sl (List.length (asNs (PV.sl (List.length t) (encN t)))) (encN (asNs (PV.sl (List.length t) (encN t)))))))) (encN (delL (asIms (pIms (asIms (pIms l)))) (asNs (PV.sl (List.length (asNs (PV.sl (List.length t) (encN t)))) (encN (asNs (PV.sl (List.length t) (encN t))))))))))) = 0))
 (some ((IV.cv (CV.pv (PV.int IntKind.i64 (Int.ofNat 0))), [[CV.lst 3 33 (List.length (Prod.fst (putL (asIms (pIms (asIms (pIms (asIms (pIms l)))))) (asNs (PV.sl (List.length (delL (asIms (pIms (asIms (pIms l)))) (asNs (PV.sl (List.length (asNs (PV.sl (List.length t) (encN t)))) (encN (asNs (PV.sl (List.length t) (encN t)))))))) (encN (delL (asIms (pIms (asIms (pIms l)))) (asNs (PV.sl (List.length (asNs (PV.sl (List.length t) (encN t)))) (encN (asNs (PV.sl (List.length t) (encN t))))))))))))) (encN (Prod.fst (putL (asIms (pIms (asIms (pIms (asIms (pIms l)))))) (asNs (PV.sl (List.length (delL (asIms (pIms (asIms (pIms l)))) (asNs (PV.sl (List.length (asNs (PV.sl (List.length t) (encN t)))) (encN (asNs (PV.sl (List.length t) (encN t)))))))) (encN (delL (asIms (pIms (asIms (pIms l)))) (asNs (PV.sl (List.length (asNs (PV.sl (List.length t) (encN t)))) (encN (asNs (PV.sl (List.length t) (encN t))))))))))))) true]])))
 (brC (isNs (PV.sl (List.length (delL (asIms (pIms (asIms (pIms l)))) (asNs (PV.sl (List.length (asNs (PV.sl (List.length t) (encN t)))) (encN (asNs (PV.sl (List.length t) (encN t)))))))) (encN (delL (asIms (pIms (asIms (pIms l)))) (asNs (PV.sl (List.length (asNs (PV.sl (List.length t) (encN t)))) (encN (asNs (PV.sl (List.length t) (encN t))))))))) && isIms (pIms (asIms (pIms (asIms (pIms l))))) && Nat.beq 33 33 && Nat.beq 0 0 && (↑(List.length (asIms (pIms (asIms (pIms l))))) : Int) == (↑(List.length (asIms (pIms (asIms (pIms (asIms (pIms l))))))) : Int) && 0 == 0 && treeB (asNs (PV.sl (List.length (delL (asIms (pIms (asIms (pIms l)))) (asNs (PV.sl (List.length (asNs (PV.sl (List.length t) (encN t)))) (encN (asNs (PV.sl (List.length t) (encN t)))))))) (encN (delL (asIms (pIms (asIms (pIms l)))) (asNs (PV.sl (List.length (asNs (PV.sl (List.length t) (encN t)))) (encN (asNs (PV.sl (List.length t) (encN t)))))))))) && imgsB (asIms (pIms (asIms (pIms (asIms (pIms l)))))) && !decide (Prod.snd (putL (asIms (pIms (asIms (pIms (asIms (pIms l)))))) (asNs (PV.sl (List.length (delL (asIms (pIms (asIms (pIms l)))) (asNs (PV.sl (List.length (asNs (PV.sl (List.length t) (encN t)))) (encN (asNs (PV.sl (List.length t) (encN t)))))))) (encN (delL (asIms (pIms (asIms (pIms l)))) (asNs (PV.sl (List.length (asNs (PV.sl (List.length t) (encN t)))) (encN (asNs (PV.sl (List.length t) (encN t))))))))))) = 0))
 (some ((IV.cv (CV.pv (PV.int IntKind.i64 (Prod.snd (putL (asIms (pIms (asIms (pIms (asIms (pIms l)))))) (asNs (PV.sl (List.length (delL (asIms (pIms (asIms (pIms l)))) (asNs (PV.sl (List.length (asNs (PV.sl (List.length t) (encN t)))) (encN (asNs (PV.sl (List.length t) (encN t)))))))) (encN (delL (asIms (pIms (asIms (pIms l)))) (asNs (PV.sl (List.length (asNs (PV.sl (List.length t) (encN t)))) (encN (asNs (PV.sl (List.length t) (encN t)))))))))))))), [[CV.lst 3 33 (List.length (Prod.fst (putL (asIms (pIms (asIms (pIms (asIms (pIms l)))))) (asNs (PV.sl (List.length (delL (asIms (pIms (asIms (pIms l)))) (asNs (PV.sl (List.length (asNs (PV.sl (List.length t) (encN t)))) (encN (asNs (PV.sl (List.length t) (encN t)))))))) (encN (delL (asIms (pIms (asIms (pIms l)))) (asNs (PV.sl (List.length (asNs (PV.sl (List.length t) (encN t)))) (encN (asNs (PV.sl (List.length t) (encN t))))))))))))) (encN (Prod.fst (putL (asIms (pIms (asIms (pIms (asIms (pIms l)))))) (asNs (PV.sl (List.length (delL (asIms (pIms (asIms (pIms l)))) (asNs (PV.sl (List.length (asNs (PV.sl (List.length t) (encN t)))) (encN (asNs (PV.sl (List.length t) (encN t)))))))) (encN (delL (asIms (pIms (asIms (pIms l)))) (asNs (PV.sl (List.length (asNs (PV.sl (List.length t) (encN t)))) (encN (asNs (PV.sl (List.length t) (encN t))))))))))))) true]])))
 (none)))
 (none))
 (none)) := by kernel_rfl
theorem q_Redo_eq (t : List NodeT) (l : List ImT) : q_Redo brC t l =
 brC (isT (PV.agg [PV.sl (List.length t) (encN t)]))
 (brC (!treeB (asT (PV.agg [PV.sl (List.length t) (encN t)])))
 (some ((IV.tup [IV.agg [CV.pv PV.nils], IV.cv (CV.pv (PV.int IntKind.i64 (Int.ofNat 1)))], [])))
 (brC (isIms (PV.sl (List.length l) (encIm l)))
 (brC (!imgsB (asIms (PV.sl (List.length l) (encIm l))))
 (some ((IV.tup [IV.agg [CV.pv PV.nils], IV.cv (CV.pv (PV.int IntKind.i64 (Int.ofNat 1)))], [])))
 (brC (isT (PV.agg [PV.sl (List.length t) (encN t)]) && holds (asT (PV.agg [PV.sl (List.length t) (encN t)]) = []))
 (brC (isIms (PV.sl (List.length l) (encIm l)) && imgsB (asIms (PV.sl (List.length l) (encIm l))) && holds (Prod.fst (redoL [] (asIms (PV.sl (List.length l) (encIm l)))) = []))
 (brC (Prod.snd (redoL [] (asIms (PV.sl (List.length l) (encIm l)))) != 0)
 (some ((IV.tup [IV.agg [CV.pv PV.nils], IV.cv (CV.pv (PV.int IntKind.i64 (Prod.snd (redoL [] (asIms (PV.sl (List.length l) (encIm l)))))))], [])))
 (some ((IV.tup [IV.agg [CV.pv PV.nils], IV.cv (CV.pv (PV.int IntKind.i64 (Int.ofNat 0)))], []))))
 (brC (isIms (PV.sl (List.length l) (encIm l)) && imgsB (asIms (PV.sl (List.length l) (encIm l))) && !holds (Prod.fst (redoL [] (asIms (PV.sl (List.length l) (encIm l)))) = []))
 (brC (Prod.snd (redoL [] (asIms (PV.sl (List.length l) (encIm l)))) != 0)
 (some ((IV.tup [IV.agg [CV.pv PV.nils], IV.cv (CV.pv (PV.int IntKind.i64 (Prod.snd (redoL [] (asIms (PV.sl (List.length l) (encIm l)))))))], [])))
 (some ((IV.tup [IV.agg [CV.lst 3 33 (List.length (Prod.fst (redoL [] (asIms (PV.sl (List.length l) (encIm l)))))) (encN (Prod.fst (redoL [] (asIms (PV.sl (List.length l) (encIm l)))))) true], IV.cv (CV.pv (PV.int IntKind.i64 (Int.ofNat 0)))], []))))
 (none)))
 (brC (isT (PV.agg [PV.sl (List.length t) (encN t)]))
 (brC (isNs (PV.sl (List.length (asT (PV.agg [PV.sl (List.length t) (encN t)]))) (encN (asT (PV.agg [PV.sl (List.length t) (encN t)])))) && isIms (PV.sl (List.length l) (encIm l)) && Nat.beq 33 33 && treeB (asNs (PV.sl (List.length (asT (PV.agg [PV.sl (List.length t) (encN t)]))) (encN (asT (PV.agg [PV.sl (List.length t) (encN t)]))))) && imgsB (asIms (PV.sl (List.length l) (encIm l))))
 (brC (Prod.snd (redoL (asNs (PV.sl (List.length (asT (PV.agg [PV.sl (List.length t) (encN t)]))) (encN (asT (PV.agg [PV.sl (List.length t) (encN t)]))))) (asIms (PV.sl (List.length l) (encIm l)))) != 0)
 (some ((IV.tup [IV.agg [CV.pv PV.nils], IV.cv (CV.pv (PV.int IntKind.i64 (Prod.snd (redoL (asNs (PV.sl (List.length (asT (PV.agg [PV.sl (List.length t) (encN t)]))) (encN (asT (PV.agg [PV.sl (List.length t) (encN t)]))))) (asIms (PV.sl (List.length l) (encIm l)))))))], [])))
 (some ((IV.tup [IV.agg [CV.lst 3 33 (List.length (Prod.fst (redoL (asNs (PV.sl (List.length (asT (PV.agg [PV.sl (List.length t) (encN t)]))) (encN (asT (PV.agg [PV.sl (List.length t) (encN t)]))))) (asIms (PV.sl (List.length l) (encIm l)))))) (encN (Prod.fst (redoL (asNs (PV.sl (List.length (asT (PV.agg [PV.sl (List.length t) (encN t)]))) (encN (asT (PV.agg [PV.sl (List.length t) (encN t)]))))) (asIms (PV.sl (List.length l) (encIm l)))))) true], IV.cv (CV.pv (PV.int IntKind.i64 (Int.ofNat 0)))], []))))
 (none))
 (none))))
 (none)))
 (none) := by kernel_rfl
theorem r_redo16_eq (t : List NodeT) (u : List ImT) (i : Int) : r_redo16 brC t u i =
 brC (decide (i < (↑(List.length u) : Int)))
 (brC (decide (0 ≤ i) && decide (i < (↑(List.length u) : Int)))
 (brC (Nat.ble 6 (List.length (List.drop (Int.toNat i * 6) (encIm u))) && (PV.isStr (List.headD (List.drop (Int.toNat i * 6) (encIm u)) PV.nilp) && (PV.isSl (List.headD (List.tail (List.drop (Int.toNat i * 6) (encIm u))) PV.nilp) && (PV.isBool (List.headD (List.tail (List.tail (List.drop (Int.toNat i * 6) (encIm u)))) PV.nilp) && (PV.isStr (List.headD (List.tail (List.tail (List.tail (List.drop (Int.toNat i * 6) (encIm u))))) PV.nilp) && (PV.isBool (List.headD (List.tail (List.tail (List.tail (List.tail (List.drop (Int.toNat i * 6) (encIm u)))))) PV.nilp) && (PV.isStr (List.headD (List.tail (List.tail (List.tail (List.tail (List.tail (List.drop (Int.toNat i * 6) (encIm u))))))) PV.nilp) && true && true) && true) && true) && true) && true) && true) && true)
 (brC (PV.asBool (List.headD (List.tail (List.tail (List.tail (List.tail (List.drop (Int.toNat i * 6) (encIm u)))))) PV.nilp))
 (brC (isNs (PV.sl (List.length t) (encN t)) && Nat.beq 33 33 && isL (PV.sl (PV.slN (List.headD (List.tail (List.drop (Int.toNat i * 6) (encIm u))) PV.nilp)) (PV.slL (List.headD (List.tail (List.drop (Int.toNat i * 6) (encIm u))) PV.nilp))) && decide (ByteArray.size (PV.asStr (List.headD (List.drop (Int.toNat i * 6) (encIm u)) PV.nilp)) ≤ 1000000) && treeB (asNs (PV.sl (List.length t) (encN t))) && !hasAt (asNs (PV.sl (List.length t) (encN t))) (PV.asStr (List.headD (List.drop (Int.toNat i * 6) (encIm u)) PV.nilp)) (asL (PV.sl (PV.slN (List.headD (List.tail (List.drop (Int.toNat i * 6) (encIm u))) PV.nilp)) (PV.slL (List.headD (List.tail (List.drop (Int.toNat i * 6) (encIm u))) PV.nilp)))) && decide (List.length t = 120))
 (some (Sum.inr (Ex.ret, [(AV.ptr 0 0, some (Ob.box [CV.lst 3 33 (List.length (asNs (PV.sl (List.length t) (encN t)))) (encN (asNs (PV.sl (List.length t) (encN t)))) true])), (AV.pv (PV.int IntKind.i64 (Int.ofNat 4)), none)])))
 (brC (isNs (PV.sl (List.length t) (encN t)) && Nat.beq 33 33 && isL (PV.sl (PV.slN (List.headD (List.tail (List.drop (Int.toNat i * 6) (encIm u))) PV.nilp)) (PV.slL (List.headD (List.tail (List.drop (Int.toNat i * 6) (encIm u))) PV.nilp))) && decide (ByteArray.size (PV.asStr (List.headD (List.drop (Int.toNat i * 6) (encIm u)) PV.nilp)) ≤ 1000000) && treeB (asNs (PV.sl (List.length t) (encN t))))
 (some (Sum.inl [(AV.ptr 0 0, some (Ob.box [CV.lst 3 33 (List.length (putT (asNs (PV.sl (List.length t) (encN t))) (PV.asStr (List.headD (List.drop (Int.toNat i * 6) (encIm u)) PV.nilp)) (asL (PV.sl (PV.slN (List.headD (List.tail (List.drop (Int.toNat i * 6) (encIm u))) PV.nilp)) (PV.slL (List.headD (List.tail (List.drop (Int.toNat i * 6) (encIm u))) PV.nilp)))) (PV.asStr (List.headD (List.tail (List.tail (List.tail (List.tail (List.tail (List.drop (Int.toNat i * 6) (encIm u))))))) PV.nilp)))) (encN (putT (asNs (PV.sl (List.length t) (encN t))) (PV.asStr (List.headD (List.drop (Int.toNat i * 6) (encIm u)) PV.nilp)) (asL (PV.sl (PV.slN (List.headD (List.tail (List.drop (Int.toNat i * 6) (encIm u))) PV.nilp)) (PV.slL (List.headD (List.tail (List.drop (Int.toNat i * 6) (encIm u))) PV.nilp)))) (PV.asStr (List.headD (List.tail (List.tail (List.tail (List.tail (List.tail (List.drop (Int.toNat i * 6) (encIm u))))))) PV.nilp)))) true])), (AV.pv (PV.sl (List.length u) (encIm u)), none), (AV.pv (PV.int IntKind.i64 (↑(List.length u) : Int)), none), (AV.pv (PV.int IntKind.i64 (IntKind.wrap IntKind.i64 (i + 1))), none)]))
 (none)))
 (some (Sum.inl [(AV.ptr 0 0, some (Ob.box [CV.lst 3 33 (List.length t) (encN t) true])), (AV.pv (PV.sl (List.length u) (encIm u)), none), (AV.pv (PV.int IntKind.i64 (↑(List.length u) : Int)), none), (AV.pv (PV.int IntKind.i64 (IntKind.wrap IntKind.i64 (i + 1))), none)])))
 (none))
 (none))
 (some (Sum.inr (Ex.exit 4, [(AV.ptr 0 0, some (Ob.box [CV.lst 3 33 (List.length t) (encN t) true])), (AV.bad, none)]))) := by kernel_rfl
theorem r_redo2n_eq (l : List ImT) (u : List ImT) (i : Int) : r_redo2n brC l u i =
 brC (decide (i < (↑(List.length u) : Int)))
 (brC (decide (0 ≤ i) && decide (i < (↑(List.length u) : Int)))
 (brC (Nat.ble 6 (List.length (List.drop (Int.toNat i * 6) (encIm u))) && (PV.isStr (List.headD (List.drop (Int.toNat i * 6) (encIm u)) PV.nilp) && (PV.isSl (List.headD (List.tail (List.drop (Int.toNat i * 6) (encIm u))) PV.nilp) && (PV.isBool (List.headD (List.tail (List.tail (List.drop (Int.toNat i * 6) (encIm u)))) PV.nilp) && (PV.isStr (List.headD (List.tail (List.tail (List.tail (List.drop (Int.toNat i * 6) (encIm u))))) PV.nilp) && (PV.isBool (List.headD (List.tail (List.tail (List.tail (List.tail (List.drop (Int.toNat i * 6) (encIm u)))))) PV.nilp) && (PV.isStr (List.headD (List.tail (List.tail (List.tail (List.tail (List.tail (List.drop (Int.toNat i * 6) (encIm u))))))) PV.nilp) && true && true) && true) && true) && true) && true) && true) && true)
 (brC (isT (PV.agg [PV.sl 0 []]) && isL (PV.sl (PV.slN (List.headD (List.tail (List.drop (Int.toNat i * 6) (encIm u))) PV.nilp)) (PV.slL (List.headD (List.tail (List.drop (Int.toNat i * 6) (encIm u))) PV.nilp))) && decide (ByteArray.size (PV.asStr (List.headD (List.drop (Int.toNat i * 6) (encIm u)) PV.nilp)) ≤ 1000000) && treeB (asT (PV.agg [PV.sl 0 []])))
 (brC (!Option.isSome (getV (asT (PV.agg [PV.sl 0 []])) (PV.asStr (List.headD (List.drop (Int.toNat i * 6) (encIm u)) PV.nilp)) (asL (PV.sl (PV.slN (List.headD (List.tail (List.drop (Int.toNat i * 6) (encIm u))) PV.nilp)) (PV.slL (List.headD (List.tail (List.drop (Int.toNat i * 6) (encIm u))) PV.nilp))))) == PV.asBool (List.headD (List.tail (List.tail (List.drop (Int.toNat i * 6) (encIm u)))) PV.nilp))
 (some (Sum.inr (Ex.ret, [(AV.ptr 0 0, some (Ob.box [CV.pv PV.nils])), (AV.pv (PV.sl (List.length l) (encIm l)), none), (AV.pv (PV.int IntKind.i64 (Int.ofNat 5)), none)])))
 (brC (!ByteArray.toList (Option.getD (getV (asT (PV.agg [PV.sl 0 []])) (PV.asStr (List.headD (List.drop (Int.toNat i * 6) (encIm u)) PV.nilp)) (asL (PV.sl (PV.slN (List.headD (List.tail (List.drop (Int.toNat i * 6) (encIm u))) PV.nilp)) (PV.slL (List.headD (List.tail (List.drop (Int.toNat i * 6) (encIm u))) PV.nilp))))) { data := #[] }) == ByteArray.toList (PV.asStr (List.headD (List.tail (List.tail (List.tail (List.drop (Int.toNat i * 6) (encIm u))))) PV.nilp)))
 (some (Sum.inr (Ex.ret, [(AV.ptr 0 0, some (Ob.box [CV.pv PV.nils])), (AV.pv (PV.sl (List.length l) (encIm l)), none), (AV.pv (PV.int IntKind.i64 (Int.ofNat 5)), none)])))
 (some (Sum.inl [(AV.ptr 0 0, some (Ob.box [CV.pv PV.nils])), (AV.pv (PV.sl (List.length l) (encIm l)), none), (AV.pv (PV.sl (List.length u) (encIm u)), none), (AV.pv (PV.int IntKind.i64 (↑(List.length u) : Int)), none), (AV.pv (PV.int IntKind.i64 (IntKind.wrap IntKind.i64 (i + 1))), none)]))))
 (none))
 (none))
 (none))
 (some (Sum.inr (Ex.exit 0, [(AV.ptr 0 0, some (Ob.box [CV.pv PV.nils])), (AV.pv (PV.sl (List.length l) (encIm l)), none), (AV.bad, none)]))) := by kernel_rfl
theorem q_redo0_eq (l : List ImT) : q_redo0 brC l =
 brC (isIms (pIms l) && isIms (pIms l) && Nat.beq 0 0 && (↑(List.length l) : Int) == (↑(List.length (asIms (pIms l))) : Int) && 0 == 0 && holds (asIms (pIms l) = asIms (pIms l)) && imgsB (asIms (pIms l)) && !fitsL [] (asIms (pIms l)))
 (some ((IV.cv (CV.pv (PV.int IntKind.i64 (Int.ofNat 5))), [[CV.pv PV.nils]])))
 (brC (isIms (pIms l) && isIms (pIms l) && Nat.beq 0 0 && (↑(List.length l) : Int) == (↑(List.length (asIms (pIms l))) : Int) && 0 == 0 && holds (asIms (pIms l) = asIms (pIms l)) && imgsB (asIms (pIms l)) && fitsL [] (asIms (pIms l)))
 (brC (isIms (pIms (asIms (pIms l))) && isIms (pIms (asIms (pIms l))) && Nat.beq 0 0 && (↑(List.length (asIms (pIms l))) : Int) == (↑(List.length (asIms (pIms (asIms (pIms l))))) : Int) && 0 == 0 && holds (asIms (pIms (asIms (pIms l))) = asIms (pIms (asIms (pIms l)))) && imgsB (asIms (pIms (asIms (pIms l)))))
 (brC (isIms (pIms (asIms (pIms (asIms (pIms l))))) && Nat.beq 0 0 && (↑(List.length (asIms (pIms (asIms (pIms l))))) : Int) == (↑(List.length (asIms (pIms (asIms (pIms (asIms (pIms l))))))) : Int) && 0 == 0 && imgsB (asIms (pIms (asIms (pIms (asIms (pIms l)))))) && holds (Prod.fst (putL (asIms (pIms (asIms (pIms (asIms (pIms l)))))) []) = []))
 (some ((IV.cv (CV.pv (PV.int IntKind.i64 (Int.ofNat 0))), [[CV.pv PV.nils]])))
 (brC (isIms (pIms (asIms (pIms (asIms (pIms l))))) && Nat.beq 0 0 && (↑(List.length (asIms (pIms (asIms (pIms l))))) : Int) == (↑(List.length (asIms (pIms (asIms (pIms (asIms (pIms l))))))) : Int) && 0 == 0 && imgsB (asIms (pIms (asIms (pIms (asIms (pIms l)))))) && !holds (Prod.fst (putL (asIms (pIms (asIms (pIms (asIms (pIms l)))))) []) = []) && decide (Prod.snd (putL (asIms (pIms (asIms (pIms (asIms (pIms l)))))) []) = 0))
 (some ((IV.cv (CV.pv (PV.int IntKind.i64 (Int.ofNat 0))), [[CV.lst 3 33 (List.length (Prod.fst (putL (asIms (pIms (asIms (pIms (asIms (pIms l)))))) []))) (encN (Prod.fst (putL (asIms (pIms (asIms (pIms (asIms (pIms l)))))) []))) true]])))
 (brC (isIms (pIms (asIms (pIms (asIms (pIms l))))) && Nat.beq 0 0 && (↑(List.length (asIms (pIms (asIms (pIms l))))) : Int) == (↑(List.length (asIms (pIms (asIms (pIms (asIms (pIms l))))))) : Int) && 0 == 0 && imgsB (asIms (pIms (asIms (pIms (asIms (pIms l)))))) && !holds (Prod.fst (putL (asIms (pIms (asIms (pIms (asIms (pIms l)))))) []) = []) && !decide (Prod.snd (putL (asIms (pIms (asIms (pIms (asIms (pIms l)))))) []) = 0))
 (some ((IV.cv (CV.pv (PV.int IntKind.i64 (Prod.snd (putL (asIms (pIms (asIms (pIms (asIms (pIms l)))))) [])))), [[CV.lst 3 33 (List.length (Prod.fst (putL (asIms (pIms (asIms (pIms (asIms (pIms l)))))) []))) (encN (Prod.fst (putL (asIms (pIms (asIms (pIms (asIms (pIms l)))))) []))) true]])))
 (none))))
 (none))
 (none)) := by kernel_rfl
theorem r_redo9_eq (t : List NodeT) (l : List ImT) (u : List ImT) (i : Int) : r_redo9 brC t l u i =
 brC (decide (i < (↑(List.length u) : Int)))
 (brC (decide (0 ≤ i) && decide (i < (↑(List.length u) : Int)))
 (brC (Nat.ble 6 (List.length (List.drop (Int.toNat i * 6) (encIm u))) && (PV.isStr (List.headD (List.drop (Int.toNat i * 6) (encIm u)) PV.nilp) && (PV.isSl (List.headD (List.tail (List.drop (Int.toNat i * 6) (encIm u))) PV.nilp) && (PV.isBool (List.headD (List.tail (List.tail (List.drop (Int.toNat i * 6) (encIm u)))) PV.nilp) && (PV.isStr (List.headD (List.tail (List.tail (List.tail (List.drop (Int.toNat i * 6) (encIm u))))) PV.nilp) && (PV.isBool (List.headD (List.tail (List.tail (List.tail (List.tail (List.drop (Int.toNat i * 6) (encIm u)))))) PV.nilp) && (PV.isStr (List.headD (List.tail (List.tail (List.tail (List.tail (List.tail (List.drop (Int.toNat i * 6) (encIm u))))))) PV.nilp) && true && true) && true) && true) && true) && true) && true) && true)
 (brC (isT (PV.agg [PV.sl (List.length t) (encN t)]) && isL (PV.sl (PV.slN (List.headD (List.tail (List.drop (Int.toNat i * 6) (encIm u))) PV.nilp)) (PV.slL (List.headD (List.tail (List.drop (Int.toNat i * 6) (encIm u))) PV.nilp))) && decide (ByteArray.size (PV.asStr (List.headD (List.drop (Int.toNat i * 6) (encIm u)) PV.nilp)) ≤ 1000000) && treeB (asT (PV.agg [PV.sl (List.length t) (encN t)])))
 (brC (hasAt (asT (PV.agg [PV.sl (List.length t) (encN t)])) (PV.asStr (List.headD (List.drop (Int.toNat i * 6) (encIm u)) PV.nilp)) (asL (PV.sl (PV.slN (List.headD (List.tail (List.drop (Int.toNat i * 6) (encIm u))) PV.nilp)) (PV.slL (List.headD (List.tail (List.drop (Int.toNat i * 6) (encIm u))) PV.nilp)))))
 (brC (!PV.asBool (List.headD (List.tail (List.tail (List.tail (List.tail (List.drop (Int.toNat i * 6) (encIm u)))))) PV.nilp))
 (brC (Nat.beq 33 33 && decide (0 ≤ (↑(locIdx (asT (PV.agg [PV.sl (List.length t) (encN t)])) (PV.asStr (List.headD (List.drop (Int.toNat i * 6) (encIm u)) PV.nilp)) (asL (PV.sl (PV.slN (List.headD (List.tail (List.drop (Int.toNat i * 6) (encIm u))) PV.nilp)) (PV.slL (List.headD (List.tail (List.drop (Int.toNat i * 6) (encIm u))) PV.nilp))))) : Int)) && decide ((↑(locIdx (asT (PV.agg [PV.sl (List.length t) (encN t)])) (PV.asStr (List.headD (List.drop (Int.toNat i * 6) (encIm u)) PV.nilp)) (asL (PV.sl (PV.slN (List.headD (List.tail (List.drop (Int.toNat i * 6) (encIm u))) PV.nilp)) (PV.slL (List.headD (List.tail (List.drop (Int.toNat i * 6) (encIm u))) PV.nilp))))) : Int) < IntKind.wrap IntKind.i64 ((↑(locIdx (asT (PV.agg [PV.sl (List.length t) (encN t)])) (PV.asStr (List.headD (List.drop (Int.toNat i * 6) (encIm u)) PV.nilp)) (asL (PV.sl (PV.slN (List.headD (List.tail (List.drop (Int.toNat i * 6) (encIm u))) PV.nilp)) (PV.slL (List.headD (List.tail (List.drop (Int.toNat i * 6) (encIm u))) PV.nilp))))) : Int) + 1)) && decide (IntKind.wrap IntKind.i64 ((↑(locIdx (asT (PV.agg [PV.sl (List.length t) (encN t)])) (PV.asStr (List.headD (List.drop (Int.toNat i * 6) (encIm u)) PV.nilp)) (asL (PV.sl (PV.slN (List.headD (List.tail (List.drop (Int.toNat i * 6) (encIm u))) PV.nilp)) (PV.slL (List.headD (List.tail (List.drop (Int.toNat i * 6) (encIm u))) PV.nilp))))) : Int) + 1) ≤ (↑(List.length t) : Int)) && decide (List.length t ≤ 1000000))
 (some (Sum.inl [(AV.ptr 0 0, some (Ob.box [CV.lst 3 33 (List.length t - (Int.toNat (IntKind.wrap IntKind.i64 ((↑(locIdx (asT (PV.agg [PV.sl (List.length t) (encN t)])) (PV.asStr (List.headD (List.drop (Int.toNat i * 6) (encIm u)) PV.nilp)) (asL (PV.sl (PV.slN (List.headD (List.tail (List.drop (Int.toNat i * 6) (encIm u))) PV.nilp)) (PV.slL (List.headD (List.tail (List.drop (Int.toNat i * 6) (encIm u))) PV.nilp))))) : Int) + 1)) - Int.toNat (↑(locIdx (asT (PV.agg [PV.sl (List.length t) (encN t)])) (PV.asStr (List.headD (List.drop (Int.toNat i * 6) (encIm u)) PV.nilp)) (asL (PV.sl (PV.slN (List.headD (List.tail (List.drop (Int.toNat i * 6) (encIm u))) PV.nilp)) (PV.slL (List.headD (List.tail (List.drop (Int.toNat i * 6) (encIm u))) PV.nilp))))) : Int))) (List.take (Int.toNat (↑(locIdx (asT (PV.agg [PV.sl (List.length t) (encN t)])) (PV.asStr (List.headD (List.drop (Int.toNat i * 6) (encIm u)) PV.nilp)) (asL (PV.sl (PV.slN (List.headD (List.tail (List.drop (Int.toNat i * 6) (encIm u))) PV.nilp)) (PV.slL (List.headD (List.tail (List.drop (Int.toNat i * 6) (encIm u))) PV.nilp))))) : Int) * 3) (encN t) ++ List.drop (Int.toNat (IntKind.wrap IntKind.i64 ((↑(locIdx (asT (PV.agg [PV.sl (List.length t) (encN t)])) (PV.asStr (List.headD (List.drop (Int.toNat i * 6) (encIm u)) PV.nilp)) (asL (PV.sl (PV.slN (List.headD (List.tail (List.drop (Int.toNat i * 6) (encIm u))) PV.nilp)) (PV.slL (List.headD (List.tail (List.drop (Int.toNat i * 6) (encIm u))) PV.nilp))))) : Int) + 1)) * 3) (encN t)) true])), (AV.pv (PV.sl (List.length l) (encIm l)), none), (AV.pv (PV.sl (List.length u) (encIm u)), none), (AV.pv (PV.int IntKind.i64 (↑(List.length u) : Int)), none), (AV.pv (PV.int IntKind.i64 (IntKind.wrap IntKind.i64 (i + 1))), none)]))
 (none))
 (some (Sum.inl [(AV.ptr 0 0, some (Ob.box [CV.lst 3 33 (List.length t) (encN t) true])), (AV.pv (PV.sl (List.length l) (encIm l)), none), (AV.pv (PV.sl (List.length u) (encIm u)), none), (AV.pv (PV.int IntKind.i64 (↑(List.length u) : Int)), none), (AV.pv (PV.int IntKind.i64 (IntKind.wrap IntKind.i64 (i + 1))), none)])))
 (some (Sum.inl [(AV.ptr 0 0, some (Ob.box [CV.lst 3 33 (List.length t) (encN t) true])), (AV.pv (PV.sl (List.length l) (encIm l)), none), (AV.pv (PV.sl (List.length u) (encIm u)), none), (AV.pv (PV.int IntKind.i64 (↑(List.length u) : Int)), none), (AV.pv (PV.int IntKind.i64 (IntKind.wrap IntKind.i64 (i + 1))), none)])))
 (none))
 (none))
 (none))
 (some (Sum.inr (Ex.exit 2, [(AV.ptr 0 0, some (Ob.box [CV.lst 3 33 (List.length t) (encN t) true])), (AV.pv (PV.sl (List.length l) (encIm l)), none)]))) := by kernel_rfl
theorem r_redo16n_eq (u : List ImT) (i : Int) : r_redo16n brC u i =
 brC (decide (i < (↑(List.length u) : Int)))
 (brC (decide (0 ≤ i) && decide (i < (↑(List.length u) : Int)))
 (brC (Nat.ble 6 (List.length (List.drop (Int.toNat i * 6) (encIm u))) && (PV.isStr (List.headD (List.drop (Int.toNat i * 6) (encIm u)) PV.nilp) && (PV.isSl (List.headD (List.tail (List.drop (Int.toNat i * 6) (encIm u))) PV.nilp) && (PV.isBool (List.headD (List.tail (List.tail (List.drop (Int.toNat i * 6) (encIm u)))) PV.nilp) && (PV.isStr (List.headD (List.tail (List.tail (List.tail (List.drop (Int.toNat i * 6) (encIm u))))) PV.nilp) && (PV.isBool (List.headD (List.tail (List.tail (List.tail (List.tail (List.drop (Int.toNat i * 6) (encIm u)))))) PV.nilp) && (PV.isStr (List.headD (List.tail (List.tail (List.tail (List.tail (List.tail (List.drop (Int.toNat i * 6) (encIm u))))))) PV.nilp) && true && true) && true) && true) && true) && true) && true) && true)
 (brC (PV.asBool (List.headD (List.tail (List.tail (List.tail (List.tail (List.drop (Int.toNat i * 6) (encIm u)))))) PV.nilp))
 (brC (isL (PV.sl (PV.slN (List.headD (List.tail (List.drop (Int.toNat i * 6) (encIm u))) PV.nilp)) (PV.slL (List.headD (List.tail (List.drop (Int.toNat i * 6) (encIm u))) PV.nilp))) && decide (ByteArray.size (PV.asStr (List.headD (List.drop (Int.toNat i * 6) (encIm u)) PV.nilp)) ≤ 1000000))
 (some (Sum.inl [(AV.ptr 0 0, some (Ob.box [CV.lst 3 33 (List.length [mkN (PV.asStr (List.headD (List.drop (Int.toNat i * 6) (encIm u)) PV.nilp)) (asL (PV.sl (PV.slN (List.headD (List.tail (List.drop (Int.toNat i * 6) (encIm u))) PV.nilp)) (PV.slL (List.headD (List.tail (List.drop (Int.toNat i * 6) (encIm u))) PV.nilp)))) (PV.asStr (List.headD (List.tail (List.tail (List.tail (List.tail (List.tail (List.drop (Int.toNat i * 6) (encIm u))))))) PV.nilp))]) [PV.str (NodeT.name (mkN (PV.asStr (List.headD (List.drop (Int.toNat i * 6) (encIm u)) PV.nilp)) (asL (PV.sl (PV.slN (List.headD (List.tail (List.drop (Int.toNat i * 6) (encIm u))) PV.nilp)) (PV.slL (List.headD (List.tail (List.drop (Int.toNat i * 6) (encIm u))) PV.nilp)))) (PV.asStr (List.headD (List.tail (List.tail (List.tail (List.tail (List.tail (List.drop (Int.toNat i * 6) (encIm u))))))) PV.nilp)))), PV.sl (List.length (NodeT.subs (mkN (PV.asStr (List.headD (List.drop (Int.toNat i * 6) (encIm u)) PV.nilp)) (asL (PV.sl (PV.slN (List.headD (List.tail (List.drop (Int.toNat i * 6) (encIm u))) PV.nilp)) (PV.slL (List.headD (List.tail (List.drop (Int.toNat i * 6) (encIm u))) PV.nilp)))) (PV.asStr (List.headD (List.tail (List.tail (List.tail (List.tail (List.tail (List.drop (Int.toNat i * 6) (encIm u))))))) PV.nilp))))) (List.map PV.str (NodeT.subs (mkN (PV.asStr (List.headD (List.drop (Int.toNat i * 6) (encIm u)) PV.nilp)) (asL (PV.sl (PV.slN (List.headD (List.tail (List.drop (Int.toNat i * 6) (encIm u))) PV.nilp)) (PV.slL (List.headD (List.tail (List.drop (Int.toNat i * 6) (encIm u))) PV.nilp)))) (PV.asStr (List.headD (List.tail (List.tail (List.tail (List.tail (List.tail (List.drop (Int.toNat i * 6) (encIm u))))))) PV.nilp))))), PV.str (NodeT.value (mkN (PV.asStr (List.headD (List.drop (Int.toNat i * 6) (encIm u)) PV.nilp)) (asL (PV.sl (PV.slN (List.headD (List.tail (List.drop (Int.toNat i * 6) (encIm u))) PV.nilp)) (PV.slL (List.headD (List.tail (List.drop (Int.toNat i * 6) (encIm u))) PV.nilp)))) (PV.asStr (List.headD (List.tail (List.tail (List.tail (List.tail (List.tail (List.drop (Int.toNat i * 6) (encIm u))))))) PV.nilp))))] true])), (AV.pv (PV.sl (List.length u) (encIm u)), none), (AV.pv (PV.int IntKind.i64 (↑(List.length u) : Int)), none), (AV.pv (PV.int IntKind.i64 (IntKind.wrap IntKind.i64 (i + 1))), none)]))
 (none))
 (some (Sum.inl [(AV.ptr 0 0, some (Ob.box [CV.pv PV.nils])), (AV.pv (PV.sl (List.length u) (encIm u)), none), (AV.pv (PV.int IntKind.i64 (↑(List.length u) : Int)), none), (AV.pv (PV.int IntKind.i64 (IntKind.wrap IntKind.i64 (i + 1))), none)])))
 (none))
 (none))
 (some (Sum.inr (Ex.exit 4, [(AV.ptr 0 0, some (Ob.box [CV.pv PV.nils])), (AV.bad, none)]))) := by kernel_rfl
theorem r_redo9n_eq (l : List ImT) (u : List ImT) (i : Int) : r_redo9n brC l u i =
 brC (decide (i < (↑(List.length u) : Int)))
 (brC (decide (0 ≤ i) && decide (i < (↑(List.length u) : Int)))
 (brC (Nat.ble 6 (List.length (List.drop (Int.toNat i * 6) (encIm u))) && (PV.isStr (List.headD (List.drop (Int.toNat i * 6) (encIm u)) PV.nilp) && (PV.isSl (List.headD (List.tail (List.drop (Int.toNat i * 6) (encIm u))) PV.nilp) && (PV.isBool (List.headD (List.tail (List.tail (List.drop (Int.toNat i * 6) (encIm u)))) PV.nilp) && (PV.isStr (List.headD (List.tail (List.tail (List.tail (List.drop (Int.toNat i * 6) (encIm u))))) PV.nilp) && (PV.isBool (List.headD (List.tail (List.tail (List.tail (List.tail (List.drop (Int.toNat i * 6) (encIm u)))))) PV.nilp) && (PV.isStr (List.headD (List.tail (List.tail (List.tail (List.tail (List.tail (List.drop (Int.toNat i * 6) (encIm u))))))) PV.nilp) && true && true) && true) && true) && true) && true) && true) && true)
 (brC (isT (PV.agg [PV.sl 0 []]) && isL (PV.sl (PV.slN (List.headD (List.tail (List.drop (Int.toNat i * 6) (encIm u))) PV.nilp)) (PV.slL (List.headD (List.tail (List.drop (Int.toNat i * 6) (encIm u))) PV.nilp))) && decide (ByteArray.size (PV.asStr (List.headD (List.drop (Int.toNat i * 6) (encIm u)) PV.nilp)) ≤ 1000000) && treeB (asT (PV.agg [PV.sl 0 []])))
 (brC (hasAt (asT (PV.agg [PV.sl 0 []])) (PV.asStr (List.headD (List.drop (Int.toNat i * 6) (encIm u)) PV.nilp)) (asL (PV.sl (PV.slN (List.headD (List.tail (List.drop (Int.toNat i * 6) (encIm u))) PV.nilp)) (PV.slL (List.headD (List.tail (List.drop (Int.toNat i * 6) (encIm u))) PV.nilp)))))
 (brC (!PV.asBool (List.headD (List.tail (List.tail (List.tail (List.tail (List.drop (Int.toNat i * 6) (encIm u)))))) PV.nilp))
 (none)
 (some (Sum.inl [(AV.ptr 0 0, some (Ob.box [CV.pv PV.nils])), (AV.pv (PV.sl (List.length l) (encIm l)), none), (AV.pv (PV.sl (List.length u) (encIm u)), none), (AV.pv (PV.int IntKind.i64 (↑(List.length u) : Int)), none), (AV.pv (PV.int IntKind.i64 (IntKind.wrap IntKind.i64 (i + 1))), none)])))
 (some (Sum.inl [(AV.ptr 0 0, some (Ob.box [CV.pv PV.nils])), (AV.pv (PV.sl (List.length l) (encIm l)), none), (AV.pv (PV.sl (List.length u) (encIm u)), none), (AV.pv (PV.int IntKind.i64 (↑(List.length u) : Int)), none), (AV.pv (PV.int IntKind.i64 (IntKind.wrap IntKind.i64 (i + 1))), none)])))
 (none))
 (none))
 (none))
 (some (Sum.inr (Ex.exit 2, [(AV.ptr 0 0, some (Ob.box [CV.pv PV.nils])), (AV.pv (PV.sl (List.length l) (encIm l)), none)]))) := by kernel_rfl
theorem r_Undo_eq (t : List NodeT) (c : Nat) (cl : List PV) (l : List ImT) (i : Int) : r_Undo brC t c cl l i =
 brC (decide (i < (↑(List.length l) : Int)))
 (brC (decide (0 ≤ i) && decide (i < (↑(List.length l) : Int)))
 (brC (Nat.ble 6 (List.length (List.drop (Int.toNat i * 6) (encIm l))) && (PV.isStr (List.headD (List.drop (Int.toNat i * 6) (encIm l)) PV.nilp) && (PV.isSl (List.headD (List.tail (List.drop (Int.toNat i * 6) (encIm l))) PV.nilp) && (PV.isBool (List.headD (List.tail (List.tail (List.drop (Int.toNat i * 6) (encIm l)))) PV.nilp) && (PV.isStr (List.headD (List.tail (List.tail (List.tail (List.drop (Int.toNat i * 6) (encIm l))))) PV.nilp) && (PV.isBool (List.headD (List.tail (List.tail (List.tail (List.tail (List.drop (Int.toNat i * 6) (encIm l)))))) PV.nilp) && (PV.isStr (List.headD (List.tail (List.tail (List.tail (List.tail (List.tail (List.drop (Int.toNat i * 6) (encIm l))))))) PV.nilp) && true && true) && true) && true) && true) && true) && true) && true)
 (brC (Nat.beq (List.length [PV.str (PV.asStr (List.headD (List.drop (Int.toNat i * 6) (encIm l)) PV.nilp)), PV.sl (PV.slN (List.headD (List.tail (List.drop (Int.toNat i * 6) (encIm l))) PV.nilp)) (PV.slL (List.headD (List.tail (List.drop (Int.toNat i * 6) (encIm l))) PV.nilp)), PV.bool (PV.asBool (List.headD (List.tail (List.tail (List.tail (List.tail (List.drop (Int.toNat i * 6) (encIm l)))))) PV.nilp)), PV.str (PV.asStr (List.headD (List.tail (List.tail (List.tail (List.tail (List.tail (List.drop (Int.toNat i * 6) (encIm l))))))) PV.nilp)), PV.bool (PV.asBool (List.headD (List.tail (List.tail (List.drop (Int.toNat i * 6) (encIm l)))) PV.nilp)), PV.str (PV.asStr (List.headD (List.tail (List.tail (List.tail (List.drop (Int.toNat i * 6) (encIm l))))) PV.nilp))]) (1 * 6) && (decide (c + 1 ≤ 140737488351232) && decide ((c + 1) * 88 ≤ 140737488355328)))
 (some (Sum.inl [(AV.ptr 8192 0, some (Ob.box [CV.pv (PV.sl (List.length t) (encN t))])), (AV.ptr 16384 0, some (Ob.box [CV.pv PV.nils])), (AV.own 24576, some (Ob.lst 6 109 (c + 1) (cl ++ [PV.str (PV.asStr (List.headD (List.drop (Int.toNat i * 6) (encIm l)) PV.nilp)), PV.sl (PV.slN (List.headD (List.tail (List.drop (Int.toNat i * 6) (encIm l))) PV.nilp)) (PV.slL (List.headD (List.tail (List.drop (Int.toNat i * 6) (encIm l))) PV.nilp)), PV.bool (PV.asBool (List.headD (List.tail (List.tail (List.tail (List.tail (List.drop (Int.toNat i * 6) (encIm l)))))) PV.nilp)), PV.str (PV.asStr (List.headD (List.tail (List.tail (List.tail (List.tail (List.tail (List.drop (Int.toNat i * 6) (encIm l))))))) PV.nilp)), PV.bool (PV.asBool (List.headD (List.tail (List.tail (List.drop (Int.toNat i * 6) (encIm l)))) PV.nilp)), PV.str (PV.asStr (List.headD (List.tail (List.tail (List.tail (List.drop (Int.toNat i * 6) (encIm l))))) PV.nilp))]) false)), (AV.pv (PV.sl (List.length l) (encIm l)), none), (AV.pv (PV.int IntKind.i64 (↑(List.length l) : Int)), none), (AV.pv (PV.int IntKind.i64 (IntKind.wrap IntKind.i64 (i + 1))), none)]))
 (none))
 (none))
 (none))
 (some (Sum.inr (Ex.exit 0, [(AV.ptr 8192 0, some (Ob.box [CV.pv (PV.sl (List.length t) (encN t))])), (AV.ptr 16384 0, some (Ob.box [CV.pv PV.nils])), (AV.own 24576, some (Ob.lst 6 109 c cl false))]))) := by kernel_rfl
theorem r_redo2_eq (t : List NodeT) (l : List ImT) (u : List ImT) (i : Int) : r_redo2 brC t l u i =
 brC (decide (i < (↑(List.length u) : Int)))
 (brC (decide (0 ≤ i) && decide (i < (↑(List.length u) : Int)))
 (brC (Nat.ble 6 (List.length (List.drop (Int.toNat i * 6) (encIm u))) && (PV.isStr (List.headD (List.drop (Int.toNat i * 6) (encIm u)) PV.nilp) && (PV.isSl (List.headD (List.tail (List.drop (Int.toNat i * 6) (encIm u))) PV.nilp) && (PV.isBool (List.headD (List.tail (List.tail (List.drop (Int.toNat i * 6) (encIm u)))) PV.nilp) && (PV.isStr (List.headD (List.tail (List.tail (List.tail (List.drop (Int.toNat i * 6) (encIm u))))) PV.nilp) && (PV.isBool (List.headD (List.tail (List.tail (List.tail (List.tail (List.drop (Int.toNat i * 6) (encIm u)))))) PV.nilp) && (PV.isStr (List.headD (List.tail (List.tail (List.tail (List.tail (List.tail (List.drop (Int.toNat i * 6) (encIm u))))))) PV.nilp) && true && true) && true) && true) && true) && true) && true) && true)
 (brC (isT (PV.agg [PV.sl (List.length t) (encN t)]) && isL (PV.sl (PV.slN (List.headD (List.tail (List.drop (Int.toNat i * 6) (encIm u))) PV.nilp)) (PV.slL (List.headD (List.tail (List.drop (Int.toNat i * 6) (encIm u))) PV.nilp))) && decide (ByteArray.size (PV.asStr (List.headD (List.drop (Int.toNat i * 6) (encIm u)) PV.nilp)) ≤ 1000000) && treeB (asT (PV.agg [PV.sl (List.length t) (encN t)])))
 (brC (!Option.isSome (getV (asT (PV.agg [PV.sl (List.length t) (encN t)])) (PV.asStr (List.headD (List.drop (Int.toNat i * 6) (encIm u)) PV.nilp)) (asL (PV.sl (PV.slN (List.headD (List.tail (List.drop (Int.toNat i * 6) (encIm u))) PV.nilp)) (PV.slL (List.headD (List.tail (List.drop (Int.toNat i * 6) (encIm u))) PV.nilp))))) == PV.asBool (List.headD (List.tail (List.tail (List.drop (Int.toNat i * 6) (encIm u)))) PV.nilp))
 (some (Sum.inr (Ex.ret, [(AV.ptr 0 0, some (Ob.box [CV.lst 3 33 (List.length t) (encN t) true])), (AV.pv (PV.sl (List.length l) (encIm l)), none), (AV.pv (PV.int IntKind.i64 (Int.ofNat 5)), none)])))
 (brC (!ByteArray.toList (Option.getD (getV (asT (PV.agg [PV.sl (List.length t) (encN t)])) (PV.asStr (List.headD (List.drop (Int.toNat i * 6) (encIm u)) PV.nilp)) (asL (PV.sl (PV.slN (List.headD (List.tail (List.drop (Int.toNat i * 6) (encIm u))) PV.nilp)) (PV.slL (List.headD (List.tail (List.drop (Int.toNat i * 6) (encIm u))) PV.nilp))))) { data := #[] }) == ByteArray.toList (PV.asStr (List.headD (List.tail (List.tail (List.tail (List.drop (Int.toNat i * 6) (encIm u))))) PV.nilp)))
 (some (Sum.inr (Ex.ret, [(AV.ptr 0 0, some (Ob.box [CV.lst 3 33 (List.length t) (encN t) true])), (AV.pv (PV.sl (List.length l) (encIm l)), none), (AV.pv (PV.int IntKind.i64 (Int.ofNat 5)), none)])))
 (some (Sum.inl [(AV.ptr 0 0, some (Ob.box [CV.lst 3 33 (List.length t) (encN t) true])), (AV.pv (PV.sl (List.length l) (encIm l)), none), (AV.pv (PV.sl (List.length u) (encIm u)), none), (AV.pv (PV.int IntKind.i64 (↑(List.length u) : Int)), none), (AV.pv (PV.int IntKind.i64 (IntKind.wrap IntKind.i64 (i + 1))), none)]))))
 (none))
 (none))
 (none))
 (some (Sum.inr (Ex.exit 0, [(AV.ptr 0 0, some (Ob.box [CV.lst 3 33 (List.length t) (encN t) true])), (AV.pv (PV.sl (List.length l) (encIm l)), none), (AV.bad, none)]))) := by kernel_rfl
theorem q_Undo_eq (t : List NodeT) (l : List ImT) : q_Undo brC t l =
 brC (isNs (pNs t) && isIms (pIms l) && Nat.beq 8192 8192 && Nat.beq 16384 16384 && Nat.beq 24576 24576 && Nat.beq 109 109 && Nat.beq 0 0 && nilB [] && (↑(List.length l) : Int) == (↑(List.length (asIms (pIms l))) : Int) && 0 == 0)
 (brC (isT (PV.agg [PV.sl (List.length (asNs (pNs t))) (encN (asNs (pNs t)))]) && isIms (PV.sl (List.length (List.map swapI (asIms (pIms l)))) (encIm (List.map swapI (asIms (pIms l))))))
 (some ((IV.tup [IV.agg [CV.pv (PV.sl (List.length (Prod.fst (redoV (asT (PV.agg [PV.sl (List.length (asNs (pNs t))) (encN (asNs (pNs t)))])) (asIms (PV.sl (List.length (List.map swapI (asIms (pIms l)))) (encIm (List.map swapI (asIms (pIms l))))))))) (encN (Prod.fst (redoV (asT (PV.agg [PV.sl (List.length (asNs (pNs t))) (encN (asNs (pNs t)))])) (asIms (PV.sl (List.length (List.map swapI (asIms (pIms l)))) (encIm (List.map swapI (asIms (pIms l))))))))))], IV.cv (CV.pv (PV.int IntKind.i64 (Prod.snd (redoV (asT (PV.agg [PV.sl (List.length (asNs (pNs t))) (encN (asNs (pNs t)))])) (asIms (PV.sl (List.length (List.map swapI (asIms (pIms l)))) (encIm (List.map swapI (asIms (pIms l))))))))))], [])))
 (none))
 (none) := by kernel_rfl
end
section
open Go.RowKit
set_option linter.unusedVariables false
set_option linter.unusedSimpArgs false
set_option maxRecDepth 100000
section
variable {l : List ImT}
theorem redo2_loop (h : shIms l) (t : List NodeT) (ht : shT t) (hB : treeB t = true) : ∀ (m i : Nat), m + i = l.length → LoopsTo (rdB brC Tryz.prog bab3 lp_redo LO_redo Tryz.f83 2 [0]) [aBx 0 [lN t], aP (pIms l), aP (pIms l), aI l.length, aI i] (if fitsL t (l.drop i) = true then (.exit 0, [aBx 0 [lN t], aP (pIms l), aX]) else (.ret, [aBx 0 [lN t], aP (pIms l), aI 5])) := by
  have hl := h.1
  have i1 := isT_mk ht
  intro m
  induction m with
  | zero =>
    intro i hm
    obtain rfl : i = l.length := by omega
    rw [List.drop_length]
    refine .done _ _ ((r_redo2_eq t l l l.length).trans ?_)
    rw [dF (by omega)]
    rfl
  | succ m ih =>
    intro i hm
    have hi : i < l.length := by omega
    have hs := shIm_at h hi
    have ih' := ih (i + 1) (by omega)
    rw [List.drop_eq_getElem_cons hi]
    have tree := r_redo2_eq t l l i
    simp (disch := first | omega | rfl) only [isT, isL, i1, hB, drop_encIm l i hi, asL_mk, asT_mk, isL_mk hs.2.1, dT hs.1, decide_true, dT, Int.toNat_natCast, List.length_cons, List.headD_cons, List.tail_cons, List.drop_zero, List.drop_succ_cons, PV.isStr, PV.asStr, PV.isSl, PV.slN, PV.slL, PV.isInt, PV.asInt, PV.isBool, PV.asBool, ble1, ble2, ble3, ble4, ble5, ble6, blt0, wrap1, Bool.and_true, Bool.true_and] at tree
    unfold fitsL at ih' ⊢
    rw [List.all_cons]
    unfold imgFits
    cases h1 : ((getV t l[i].name l[i].subs).isSome == l[i].had) with
    | false =>
      rw [h1] at tree
      exact .done _ _ tree
    | true =>
      rw [h1] at tree
      cases h2 : sEq ((getV t l[i].name l[i].subs).getD ⟨#[]⟩) l[i].was with
      | false =>
        rw [show (ByteArray.toList ((getV t l[i].name l[i].subs).getD ⟨#[]⟩) == ByteArray.toList l[i].was) = false from h2] at tree
        exact .done _ _ tree
      | true =>
        rw [show (ByteArray.toList ((getV t l[i].name l[i].subs).getD ⟨#[]⟩) == ByteArray.toList l[i].was) = true from h2] at tree
        rw [Bool.true_and, Bool.true_and]
        exact .step _ _ _ tree ih'
theorem redo2n_loop (h : shIms l) : ∀ (m i : Nat), m + i = l.length → LoopsTo (rdB brC Tryz.prog bab3 lp_redo LO_redo Tryz.f83 2 [0]) [aBx 0 [.pv .nils], aP (pIms l), aP (pIms l), aI l.length, aI i] (if fitsL [] (l.drop i) = true then (.exit 0, [aBx 0 [.pv .nils], aP (pIms l), aX]) else (.ret, [aBx 0 [.pv .nils], aP (pIms l), aI 5])) := by
  have hl := h.1
  have i1 : isT (PV.agg [PV.sl 0 []]) = true := isT_mk shT_nil
  have i2 : asT (PV.agg [PV.sl 0 []]) = [] := asT_mk []
  have i3 : treeB [] = true := rfl
  intro m
  induction m with
  | zero =>
    intro i hm
    obtain rfl : i = l.length := by omega
    rw [List.drop_length]
    refine .done _ _ ((r_redo2n_eq l l l.length).trans ?_)
    rw [dF (by omega)]
    rfl
  | succ m ih =>
    intro i hm
    have hi : i < l.length := by omega
    have hs := shIm_at h hi
    have ih' := ih (i + 1) (by omega)
    rw [List.drop_eq_getElem_cons hi]
    have tree := r_redo2n_eq l l i
    rw [i1, i2, i3] at tree
    simp (disch := first | omega | rfl) only [isL, drop_encIm l i hi, asL_mk, isL_mk hs.2.1, dT hs.1, decide_true, dT, Int.toNat_natCast, List.length_cons, List.headD_cons, List.tail_cons, List.drop_zero, List.drop_succ_cons, PV.isStr, PV.asStr, PV.isSl, PV.slN, PV.slL, PV.isInt, PV.asInt, PV.isBool, PV.asBool, ble1, ble2, ble3, ble4, ble5, ble6, blt0, wrap1, Bool.and_true, Bool.true_and] at tree
    unfold fitsL at ih' ⊢
    rw [List.all_cons]
    unfold imgFits
    cases h1 : ((getV [] l[i].name l[i].subs).isSome == l[i].had) with
    | false =>
      rw [h1] at tree
      exact .done _ _ tree
    | true =>
      rw [h1] at tree
      cases h2 : sEq ((getV [] l[i].name l[i].subs).getD ⟨#[]⟩) l[i].was with
      | false =>
        rw [show (ByteArray.toList ((getV [] l[i].name l[i].subs).getD ⟨#[]⟩) == ByteArray.toList l[i].was) = false from h2] at tree
        exact .done _ _ tree
      | true =>
        rw [show (ByteArray.toList ((getV [] l[i].name l[i].subs).getD ⟨#[]⟩) == ByteArray.toList l[i].was) = true from h2] at tree
        rw [Bool.true_and, Bool.true_and]
        exact .step _ _ _ tree ih'
theorem delT_lN {t : List NodeT} {s : ByteArray} {xs : List ByteArray} (hl : locIdx t s xs < t.length) : CV.lst 3 33 (t.length - (locIdx t s xs + 1 - locIdx t s xs)) (List.take (locIdx t s xs * 3) (encN t) ++ List.drop ((locIdx t s xs + 1) * 3) (encN t)) true = lN (delT t s xs) := by
  have e : (delT t s xs).length = t.length - (locIdx t s xs + 1 - locIdx t s xs) := by
    unfold delT
    rw [List.length_append, List.length_take, List.length_drop]
    omega
  show _ = CV.lst 3 33 (delT t s xs).length (encN (delT t s xs)) true
  rw [e]
  unfold delT
  rw [encN_app, encN_take, encN_drop]
theorem delT_sh {t : List NodeT} (ht : shT t) (s : ByteArray) (xs : List ByteArray) : shT (delT t s xs) := ⟨Nat.le_trans (delT_sub t s xs).length_le ht.1, fun x hx => ht.2 x ((delT_sub t s xs).subset hx)⟩
theorem redo9_loop (h : shIms l) : ∀ (m i : Nat) (t : List NodeT), shT t → treeB t = true → m + i = l.length → LoopsTo (rdB brC Tryz.prog bab3 lp_redo LO_redo Tryz.f83 9 [0]) [aBx 0 [lN t], aP (pIms l), aP (pIms l), aI l.length, aI i] (.exit 2, [aBx 0 [lN (delL (l.drop i) t)], aP (pIms l)]) := by
  have hl := h.1
  intro m
  induction m with
  | zero =>
    intro i t ht hB hm
    obtain rfl : i = l.length := by omega
    rw [List.drop_length]
    refine .done _ _ ((r_redo9_eq t l l l.length).trans ?_)
    rw [dF (by omega)]
    rfl
  | succ m ih =>
    intro i t ht hB hm
    have hi : i < l.length := by omega
    have hs := shIm_at h hi
    have i1 := isT_mk ht
    have htl := ht.1
    rw [List.drop_eq_getElem_cons hi]
    unfold delL
    have tree := r_redo9_eq t l l i
    simp (disch := first | omega | rfl) only [isT, isL, i1, hB, drop_encIm l i hi, asL_mk, asT_mk, isL_mk hs.2.1, dT hs.1, decide_true, dT, Int.toNat_natCast, List.length_cons, List.headD_cons, List.tail_cons, List.drop_zero, List.drop_succ_cons, PV.isStr, PV.asStr, PV.isSl, PV.slN, PV.slL, PV.isInt, PV.asInt, PV.isBool, PV.asBool, ble1, ble2, ble3, ble4, ble5, ble6, blt0, wrap1, Bool.and_true, Bool.true_and] at tree
    cases h1 : hasAt t l[i].name l[i].subs with
    | false =>
      rw [h1] at tree
      rw [Bool.false_and, if_neg Bool.false_ne_true]
      exact .step _ _ _ tree (ih (i + 1) t ht hB (by omega))
    | true =>
      have hlt := hasAt_lt h1
      rw [h1] at tree
      cases h2 : l[i].has with
      | true =>
        rw [h2] at tree
        rw [Bool.not_true, Bool.and_false, if_neg Bool.false_ne_true]
        exact .step _ _ _ tree (ih (i + 1) t ht hB (by omega))
      | false =>
        rw [h2] at tree
        rw [Bool.not_false, Bool.and_self, if_pos rfl]
        have w1 : IntKind.wrap .i64 ((locIdx t l[i].name l[i].subs : Int) + 1) = ((locIdx t l[i].name l[i].subs + 1 : Nat) : Int) := wrap1 (by omega)
        simp (disch := first | omega | rfl) only [w1, Nat.beq_refl, delT_lN hlt, decide_true, dT, Int.toNat_natCast, List.length_cons, List.headD_cons, List.tail_cons, List.drop_zero, List.drop_succ_cons, PV.isStr, PV.asStr, PV.isSl, PV.slN, PV.slL, PV.isInt, PV.asInt, PV.isBool, PV.asBool, ble1, ble2, ble3, ble4, ble5, ble6, blt0, wrap1, Bool.and_true, Bool.true_and] at tree
        exact .step _ _ _ tree (ih (i + 1) _ (delT_sh ht _ _) (treeB_sub hB (delT_sub _ _ _)) (by omega))
theorem hasAt_nil (s : ByteArray) (xs : List ByteArray) : hasAt [] s xs = false := rfl
theorem delL_nil : ∀ l : List ImT, delL l [] = []
  | [] => rfl
  | i :: l => by
    unfold delL
    rw [hasAt_nil, Bool.false_and, if_neg Bool.false_ne_true]
    exact delL_nil l
theorem redo9n_loop (h : shIms l) : ∀ (m i : Nat), m + i = l.length → LoopsTo (rdB brC Tryz.prog bab3 lp_redo LO_redo Tryz.f83 9 [0]) [aBx 0 [.pv .nils], aP (pIms l), aP (pIms l), aI l.length, aI i] (.exit 2, [aBx 0 [.pv .nils], aP (pIms l)]) := by
  have hl := h.1
  have i1 : isT (PV.agg [PV.sl 0 []]) = true := isT_mk shT_nil
  have i2 : asT (PV.agg [PV.sl 0 []]) = [] := asT_mk []
  have i3 : treeB [] = true := rfl
  intro m
  induction m with
  | zero =>
    intro i hm
    obtain rfl : i = l.length := by omega
    refine .done _ _ ((r_redo9n_eq l l l.length).trans ?_)
    rw [dF (by omega)]
    rfl
  | succ m ih =>
    intro i hm
    have hi : i < l.length := by omega
    have hs := shIm_at h hi
    have ih' := ih (i + 1) (by omega)
    have tree := r_redo9n_eq l l i
    rw [i1, i2, i3] at tree
    simp (disch := first | omega | rfl) only [isL, drop_encIm l i hi, asL_mk, isL_mk hs.2.1, dT hs.1, hasAt_nil, decide_true, dT, Int.toNat_natCast, List.length_cons, List.headD_cons, List.tail_cons, List.drop_zero, List.drop_succ_cons, PV.isStr, PV.asStr, PV.isSl, PV.slN, PV.slL, PV.isInt, PV.asInt, PV.isBool, PV.asBool, ble1, ble2, ble3, ble4, ble5, ble6, blt0, wrap1, Bool.and_true, Bool.true_and] at tree
    exact .step _ _ _ tree ih'
theorem putT_sh' {t : List NodeT} (ht : shT t) (hl : t.length ≤ 120) {s : ByteArray} {xs : List ByteArray} {v : ByteArray} (hs : s.size ≤ 1000000) (hx : shL xs) (hv : v.size ≤ 1000000) : shT (putT t s xs v) := by
  refine ⟨?_, fun z hz => ?_⟩
  · rw [putT_size]
    split <;> omega
  · rcases mem_putT hz with rfl | hz
    · exact ⟨hs, hx, hv⟩
    · exact ht.2 z hz
theorem redo16_loop (h : shIms l) (hi : ∀ i ∈ l, imgB i = true) : ∀ (m i : Nat) (t : List NodeT), shT t → treeB t = true → m + i = l.length → LoopsTo (rdB brC Tryz.prog bab3 lp_redo LO_redo Tryz.f83 16 [0]) [aBx 0 [lN t], aP (pIms l), aI l.length, aI i]
    (if (putL (l.drop i) t).2 = 0 then (.exit 4, [aBx 0 [lN (putL (l.drop i) t).1], aX]) else (.ret, [aBx 0 [lN (putL (l.drop i) t).1], aI (putL (l.drop i) t).2])) := by
  have hl := h.1
  have hall := hi
  intro m
  induction m with
  | zero =>
    intro i t ht hB hm
    obtain rfl : i = l.length := by omega
    rw [List.drop_length]
    refine .done _ _ ((r_redo16_eq t l l.length).trans ?_)
    rw [dF (by omega)]
    rfl
  | succ m ih =>
    intro i t ht hB hm
    have hi : i < l.length := by omega
    have hs := shIm_at h hi
    have i1 := isNs_mk ht
    have htl := (treeB_ok hB).1
    have hg := imgB_place (hall _ (List.getElem_mem hi))
    rw [List.drop_eq_getElem_cons hi]
    unfold putL
    have tree := r_redo16_eq t l i
    simp (disch := first | omega | rfl) only [isNs, isL, i1, hB, drop_encIm l i hi, asL_mk, asNs_mk, isL_mk hs.2.1, dT hs.1, Nat.beq_refl, decide_true, dT, Int.toNat_natCast, List.length_cons, List.headD_cons, List.tail_cons, List.drop_zero, List.drop_succ_cons, PV.isStr, PV.asStr, PV.isSl, PV.slN, PV.slL, PV.isInt, PV.asInt, PV.isBool, PV.asBool, ble1, ble2, ble3, ble4, ble5, ble6, blt0, wrap1, Bool.and_true, Bool.true_and] at tree
    cases h1 : l[i].has with
    | false =>
      rw [h1] at tree
      rw [if_neg Bool.false_ne_true]
      exact .step _ _ _ tree (ih (i + 1) t ht hB (by omega))
    | true =>
      rw [h1] at tree
      rw [if_pos rfl]
      cases h2 : (!hasAt t l[i].name l[i].subs && decide (t.length = 120)) with
      | true =>
        rw [h2] at tree
        rw [if_pos rfl]
        exact .done _ _ tree
      | false =>
        rw [h2] at tree
        rw [if_neg Bool.false_ne_true]
        have hr : hasAt t l[i].name l[i].subs = true ∨ t.length < 120 := by
          cases hq : hasAt t l[i].name l[i].subs with
          | true => exact .inl rfl
          | false =>
            right
            rw [hq, Bool.not_false, Bool.true_and] at h2
            have := of_decide_eq_false h2
            omega
        exact .step _ _ _ tree (ih (i + 1) _ (putT_sh' ht htl hs.1 hs.2.1 hs.2.2.2) (putT_B hB hg.1 hg.2.2 hr) (by omega))
theorem putL_pos : ∀ (l : List ImT) (t : List NodeT), t ≠ [] → (putL l t).1 ≠ []
  | [], t, h => h
  | i :: l, t, h => by
    unfold putL
    split
    · split
      · exact h
      · refine putL_pos l _ fun e => ?_
        have := @putT_own t i.name i.subs i.is
        rw [e] at this
        cases this
    · exact putL_pos l t h
theorem putT_nil (s : ByteArray) (xs : List ByteArray) (v : ByteArray) : putT [] s xs v = [mkN s xs v] := by
  unfold putT
  rw [if_neg (by rw [hasAt_nil]; decide)]
  rfl
theorem redo16n_loop (h : shIms l) (hi : ∀ i ∈ l, imgB i = true) : ∀ (m i : Nat), m + i = l.length → LoopsTo (rdB brC Tryz.prog bab3 lp_redo LO_redo Tryz.f83 16 [0]) [aBx 0 [.pv .nils], aP (pIms l), aI l.length, aI i]
    (if (putL (l.drop i) []).2 = 0 then (.exit 4, [aBx 0 [if holds ((putL (l.drop i) []).1 = []) = true then .pv .nils else lN (putL (l.drop i) []).1], aX]) else (.ret, [aBx 0 [if holds ((putL (l.drop i) []).1 = []) = true then .pv .nils else lN (putL (l.drop i) []).1], aI (putL (l.drop i) []).2])) := by
  have hl := h.1
  have hall := hi
  intro m
  induction m with
  | zero =>
    intro i hm
    obtain rfl : i = l.length := by omega
    rw [List.drop_length]
    refine .done _ _ ((r_redo16n_eq l l.length).trans ?_)
    rw [dF (by omega), show (putL [] []).1 = [] from rfl, if_pos (show holds (([] : List NodeT) = []) = true from holds_mk rfl)]
    rfl
  | succ m ih =>
    intro i hm
    have hi : i < l.length := by omega
    have hs := shIm_at h hi
    have hg := imgB_place (hall _ (List.getElem_mem hi))
    rw [List.drop_eq_getElem_cons hi]
    unfold putL
    have tree := r_redo16n_eq l i
    simp (disch := first | omega | rfl) only [isL, drop_encIm l i hi, asL_mk, isL_mk hs.2.1, dT hs.1, Nat.beq_refl, decide_true, dT, Int.toNat_natCast, List.length_cons, List.headD_cons, List.tail_cons, List.drop_zero, List.drop_succ_cons, PV.isStr, PV.asStr, PV.isSl, PV.slN, PV.slL, PV.isInt, PV.asInt, PV.isBool, PV.asBool, ble1, ble2, ble3, ble4, ble5, ble6, blt0, wrap1, Bool.and_true, Bool.true_and] at tree
    cases h1 : l[i].has with
    | false =>
      rw [h1] at tree
      rw [if_neg Bool.false_ne_true]
      exact .step _ _ _ tree (ih (i + 1) (by omega))
    | true =>
      rw [h1] at tree
      have e0 : (!hasAt [] l[i].name l[i].subs && decide (([] : List NodeT).length = 120)) = false := rfl
      have e1 := putT_nil l[i].name l[i].subs l[i].is
      rw [if_pos rfl, e0, if_neg Bool.false_ne_true, e1]
      have hB1 : treeB [mkN l[i].name l[i].subs l[i].is] = true := by rw [← e1]; exact putT_B rfl hg.1 hg.2.2 (.inr (by simp))
      have hsh1 : shT [mkN l[i].name l[i].subs l[i].is] := by rw [← e1]; exact putT_sh' shT_nil (by simp) hs.1 hs.2.1 hs.2.2.2
      have hne : ¬ (putL (l.drop (i + 1)) [mkN l[i].name l[i].subs l[i].is]).1 = [] := putL_pos _ _ (by simp)
      have hh : holds ((putL (l.drop (i + 1)) [mkN l[i].name l[i].subs l[i].is]).1 = []) = false := by
        cases hq : holds ((putL (l.drop (i + 1)) [mkN l[i].name l[i].subs l[i].is]).1 = []) with
        | false => rfl
        | true => exact absurd (holds_inv hq) hne
      rw [hh, if_neg Bool.false_ne_true]
      exact .step _ _ _ tree (redo16_loop h hall m (i + 1) _ hsh1 hB1 (by omega))
end
theorem putL_nil0 : ∀ l : List ImT, (putL l []).1 = [] → (putL l []).2 = 0
  | [], _ => rfl
  | i :: l, h => by
    unfold putL at h ⊢
    split at h
    · rename_i hh
      rw [if_pos hh]
      have e0 : (!hasAt [] i.name i.subs && decide (([] : List NodeT).length = 120)) = false := rfl
      rw [e0, if_neg Bool.false_ne_true, putT_nil] at h
      exact absurd h (putL_pos _ _ (by simp))
    · rename_i hh
      rw [if_neg hh]
      exact putL_nil0 l h
theorem delL_sh : ∀ (l : List ImT) {t : List NodeT}, shT t → shT (delL l t)
  | [], _, h => h
  | i :: l, t, h => by
    unfold delL
    split
    · exact delL_sh l (delT_sh h _ _)
    · exact delL_sh l h
theorem imgs_all {l : List ImT} (h : imgsB l = true) : ∀ i ∈ l, imgB i = true := by
  unfold imgsB at h
  rw [Bool.and_eq_true] at h
  exact (imChain_ok l none h.1).1
theorem loops_redo : ∀ b ∈ loopsIn (bodyOf Tryz.f83), LoopOk Tryz.prog (tabL bab3) (OL lp_redo) Tryz.f83.ntmps (pbOf [0]) LO_redo b := by
  refine manyLoops [2, 9, 16] (by kernel_rfl) (fun k hk => by
    simp only [List.mem_cons, List.not_mem_nil, or_false] at hk
    rcases hk with rfl | rfl | rfl <;> kernel_rfl) fun k hk => ?_
  simp only [List.mem_cons, List.not_mem_nil, or_false] at hk
  rcases hk with rfl | rfl | rfl
  · refine ⟨noLoop (by kernel_rfl), ?_⟩
    intro ls e ls' hl
    replace hl : pickA (LO_redo_2 ls) = some (e, ls') := hl
    unfold LO_redo_2 at hl
    split at hl
    · rename_i e_t n_t l_t x0 p_l p_u n i
      rcases pick2 hl with ⟨hc, he⟩ | ⟨hn, hc, he⟩
      · cases he
        obtain ⟨hc, k10⟩ := andE hc
        obtain ⟨hc, k9⟩ := andE hc
        obtain ⟨hc, k8⟩ := andE hc
        obtain ⟨hc, k7⟩ := andE hc
        obtain ⟨hc, k6⟩ := andE hc
        obtain ⟨hc, k5⟩ := andE hc
        obtain ⟨hc, k4⟩ := andE hc
        obtain ⟨hc, k3⟩ := andE hc
        obtain ⟨hc, k2⟩ := andE hc
        obtain ⟨hc, k1⟩ := andE hc
        have k0 := hc
        obtain ⟨t, q_t, h_t⟩ := isE_inv k0
        injection q_t with qa_t qb_t
        subst qa_t
        subst qb_t
        have e_t : asNs (.sl _ _) = t := asNs_mk t
        have i_t := isNs_mk h_t
        obtain ⟨l, rfl, h_l⟩ := isE_inv k1
        have e_l : asIms (pIms l) = l := asIms_mk l
        have i_l := isIms_mk h_l
        obtain ⟨u, rfl, h_u⟩ := isE_inv k2
        have e_u : asIms (pIms u) = u := asIms_mk u
        have i_u := isIms_mk h_u
        obtain rfl := Nat.eq_of_beq_eq_true k3
        obtain rfl := Nat.eq_of_beq_eq_true k4
        try simp only [e_t, e_l, e_u] at k5
        obtain rfl := eq_of_beq k5
        try simp only [e_t, e_l, e_u] at k6
        obtain rfl := eq_of_beq k6
        try simp only [e_t, e_l, e_u] at k7
        have c0 := holds_inv k7
        try simp only [e_t, e_l, e_u] at k8
        have c1 := k8
        try simp only [e_t, e_l, e_u] at k9
        have c2 := k9
        try simp only [e_t, e_l, e_u] at k10
        have c3 := k10
        try simp only [e_t, e_l, e_u]
        subst c0
        have := redo2_loop h_l t h_t c1 l.length 0 (by omega)
        rw [Bool.not_eq_true'] at c3
        rw [List.drop_zero, c3, if_neg Bool.false_ne_true] at this
        exact this
      · cases he
        obtain ⟨hc, k10⟩ := andE hc
        obtain ⟨hc, k9⟩ := andE hc
        obtain ⟨hc, k8⟩ := andE hc
        obtain ⟨hc, k7⟩ := andE hc
        obtain ⟨hc, k6⟩ := andE hc
        obtain ⟨hc, k5⟩ := andE hc
        obtain ⟨hc, k4⟩ := andE hc
        obtain ⟨hc, k3⟩ := andE hc
        obtain ⟨hc, k2⟩ := andE hc
        obtain ⟨hc, k1⟩ := andE hc
        have k0 := hc
        obtain ⟨t, q_t, h_t⟩ := isE_inv k0
        injection q_t with qa_t qb_t
        subst qa_t
        subst qb_t
        have e_t : asNs (.sl _ _) = t := asNs_mk t
        have i_t := isNs_mk h_t
        obtain ⟨l, rfl, h_l⟩ := isE_inv k1
        have e_l : asIms (pIms l) = l := asIms_mk l
        have i_l := isIms_mk h_l
        obtain ⟨u, rfl, h_u⟩ := isE_inv k2
        have e_u : asIms (pIms u) = u := asIms_mk u
        have i_u := isIms_mk h_u
        obtain rfl := Nat.eq_of_beq_eq_true k3
        obtain rfl := Nat.eq_of_beq_eq_true k4
        try simp only [e_t, e_l, e_u] at k5
        obtain rfl := eq_of_beq k5
        try simp only [e_t, e_l, e_u] at k6
        obtain rfl := eq_of_beq k6
        try simp only [e_t, e_l, e_u] at k7
        have c0 := holds_inv k7
        try simp only [e_t, e_l, e_u] at k8
        have c1 := k8
        try simp only [e_t, e_l, e_u] at k9
        have c2 := k9
        try simp only [e_t, e_l, e_u] at k10
        have c3 := k10
        try simp only [e_t, e_l, e_u]
        subst c0
        have := redo2_loop h_l t h_t c1 l.length 0 (by omega)
        rw [List.drop_zero, c3, if_pos rfl] at this
        exact this
    · rename_i x0 p_l p_u n i
      rcases pick2 hl with ⟨hc, he⟩ | ⟨hn, hc, he⟩
      · cases he
        obtain ⟨hc, k7⟩ := andE hc
        obtain ⟨hc, k6⟩ := andE hc
        obtain ⟨hc, k5⟩ := andE hc
        obtain ⟨hc, k4⟩ := andE hc
        obtain ⟨hc, k3⟩ := andE hc
        obtain ⟨hc, k2⟩ := andE hc
        obtain ⟨hc, k1⟩ := andE hc
        have k0 := hc
        obtain ⟨l, rfl, h_l⟩ := isE_inv k0
        have e_l : asIms (pIms l) = l := asIms_mk l
        have i_l := isIms_mk h_l
        obtain ⟨u, rfl, h_u⟩ := isE_inv k1
        have e_u : asIms (pIms u) = u := asIms_mk u
        have i_u := isIms_mk h_u
        obtain rfl := Nat.eq_of_beq_eq_true k2
        try simp only [e_l, e_u] at k3
        obtain rfl := eq_of_beq k3
        try simp only [e_l, e_u] at k4
        obtain rfl := eq_of_beq k4
        try simp only [e_l, e_u] at k5
        have c0 := holds_inv k5
        try simp only [e_l, e_u] at k6
        have c1 := k6
        try simp only [e_l, e_u] at k7
        have c2 := k7
        try simp only [e_l, e_u]
        subst c0
        have := redo2n_loop h_l l.length 0 (by omega)
        rw [Bool.not_eq_true'] at c2
        rw [List.drop_zero, c2, if_neg Bool.false_ne_true] at this
        exact this
      · cases he
        obtain ⟨hc, k7⟩ := andE hc
        obtain ⟨hc, k6⟩ := andE hc
        obtain ⟨hc, k5⟩ := andE hc
        obtain ⟨hc, k4⟩ := andE hc
        obtain ⟨hc, k3⟩ := andE hc
        obtain ⟨hc, k2⟩ := andE hc
        obtain ⟨hc, k1⟩ := andE hc
        have k0 := hc
        obtain ⟨l, rfl, h_l⟩ := isE_inv k0
        have e_l : asIms (pIms l) = l := asIms_mk l
        have i_l := isIms_mk h_l
        obtain ⟨u, rfl, h_u⟩ := isE_inv k1
        have e_u : asIms (pIms u) = u := asIms_mk u
        have i_u := isIms_mk h_u
        obtain rfl := Nat.eq_of_beq_eq_true k2
        try simp only [e_l, e_u] at k3
        obtain rfl := eq_of_beq k3
        try simp only [e_l, e_u] at k4
        obtain rfl := eq_of_beq k4
        try simp only [e_l, e_u] at k5
        have c0 := holds_inv k5
        try simp only [e_l, e_u] at k6
        have c1 := k6
        try simp only [e_l, e_u] at k7
        have c2 := k7
        try simp only [e_l, e_u]
        subst c0
        have := redo2n_loop h_l l.length 0 (by omega)
        rw [List.drop_zero, c2, if_pos rfl] at this
        exact this
    · cases hl
  · refine ⟨noLoop (by kernel_rfl), ?_⟩
    intro ls e ls' hl
    replace hl : pickA (LO_redo_9 ls) = some (e, ls') := hl
    unfold LO_redo_9 at hl
    split at hl
    · rename_i e_t n_t l_t x0 p_l p_u n i
      obtain ⟨hc, he⟩ := pick1 hl
      cases he
      obtain ⟨hc, k9⟩ := andE hc
      obtain ⟨hc, k8⟩ := andE hc
      obtain ⟨hc, k7⟩ := andE hc
      obtain ⟨hc, k6⟩ := andE hc
      obtain ⟨hc, k5⟩ := andE hc
      obtain ⟨hc, k4⟩ := andE hc
      obtain ⟨hc, k3⟩ := andE hc
      obtain ⟨hc, k2⟩ := andE hc
      obtain ⟨hc, k1⟩ := andE hc
      have k0 := hc
      obtain ⟨t, q_t, h_t⟩ := isE_inv k0
      injection q_t with qa_t qb_t
      subst qa_t
      subst qb_t
      have e_t : asNs (.sl _ _) = t := asNs_mk t
      have i_t := isNs_mk h_t
      obtain ⟨l, rfl, h_l⟩ := isE_inv k1
      have e_l : asIms (pIms l) = l := asIms_mk l
      have i_l := isIms_mk h_l
      obtain ⟨u, rfl, h_u⟩ := isE_inv k2
      have e_u : asIms (pIms u) = u := asIms_mk u
      have i_u := isIms_mk h_u
      obtain rfl := Nat.eq_of_beq_eq_true k3
      obtain rfl := Nat.eq_of_beq_eq_true k4
      try simp only [e_t, e_l, e_u] at k5
      obtain rfl := eq_of_beq k5
      try simp only [e_t, e_l, e_u] at k6
      obtain rfl := eq_of_beq k6
      try simp only [e_t, e_l, e_u] at k7
      have c0 := holds_inv k7
      try simp only [e_t, e_l, e_u] at k8
      have c1 := k8
      try simp only [e_t, e_l, e_u] at k9
      have c2 := k9
      try simp only [e_t, e_l, e_u]
      subst c0
      have := redo9_loop h_l l.length 0 t h_t c1 (by omega)
      rw [List.drop_zero] at this
      exact this
    · rename_i x0 p_l p_u n i
      obtain ⟨hc, he⟩ := pick1 hl
      cases he
      obtain ⟨hc, k6⟩ := andE hc
      obtain ⟨hc, k5⟩ := andE hc
      obtain ⟨hc, k4⟩ := andE hc
      obtain ⟨hc, k3⟩ := andE hc
      obtain ⟨hc, k2⟩ := andE hc
      obtain ⟨hc, k1⟩ := andE hc
      have k0 := hc
      obtain ⟨l, rfl, h_l⟩ := isE_inv k0
      have e_l : asIms (pIms l) = l := asIms_mk l
      have i_l := isIms_mk h_l
      obtain ⟨u, rfl, h_u⟩ := isE_inv k1
      have e_u : asIms (pIms u) = u := asIms_mk u
      have i_u := isIms_mk h_u
      obtain rfl := Nat.eq_of_beq_eq_true k2
      try simp only [e_l, e_u] at k3
      obtain rfl := eq_of_beq k3
      try simp only [e_l, e_u] at k4
      obtain rfl := eq_of_beq k4
      try simp only [e_l, e_u] at k5
      have c0 := holds_inv k5
      try simp only [e_l, e_u] at k6
      have c1 := k6
      try simp only [e_l, e_u]
      subst c0
      exact redo9n_loop h_l l.length 0 (by omega)
    · cases hl
  · refine ⟨noLoop (by kernel_rfl), ?_⟩
    intro ls e ls' hl
    replace hl : pickA (LO_redo_16 ls) = some (e, ls') := hl
    unfold LO_redo_16 at hl
    split at hl
    · rename_i e_t n_t l_t x0 p_u n i
      rcases pick2 hl with ⟨hc, he⟩ | ⟨hn, hc, he⟩
      · cases he
        obtain ⟨hc, k8⟩ := andE hc
        obtain ⟨hc, k7⟩ := andE hc
        obtain ⟨hc, k6⟩ := andE hc
        obtain ⟨hc, k5⟩ := andE hc
        obtain ⟨hc, k4⟩ := andE hc
        obtain ⟨hc, k3⟩ := andE hc
        obtain ⟨hc, k2⟩ := andE hc
        obtain ⟨hc, k1⟩ := andE hc
        have k0 := hc
        obtain ⟨t, q_t, h_t⟩ := isE_inv k0
        injection q_t with qa_t qb_t
        subst qa_t
        subst qb_t
        have e_t : asNs (.sl _ _) = t := asNs_mk t
        have i_t := isNs_mk h_t
        obtain ⟨u, rfl, h_u⟩ := isE_inv k1
        have e_u : asIms (pIms u) = u := asIms_mk u
        have i_u := isIms_mk h_u
        obtain rfl := Nat.eq_of_beq_eq_true k2
        obtain rfl := Nat.eq_of_beq_eq_true k3
        try simp only [e_t, e_u] at k4
        obtain rfl := eq_of_beq k4
        try simp only [e_t, e_u] at k5
        obtain rfl := eq_of_beq k5
        try simp only [e_t, e_u] at k6
        have c0 := k6
        try simp only [e_t, e_u] at k7
        have c1 := k7
        try simp only [e_t, e_u] at k8
        have c2 := of_decide_eq_true k8
        try simp only [e_t, e_u]
        have := redo16_loop h_u (imgs_all c1) u.length 0 t h_t c0 (by omega)
        rw [List.drop_zero, if_pos c2] at this
        exact this
      · cases he
        obtain ⟨hc, k8⟩ := andE hc
        obtain ⟨hc, k7⟩ := andE hc
        obtain ⟨hc, k6⟩ := andE hc
        obtain ⟨hc, k5⟩ := andE hc
        obtain ⟨hc, k4⟩ := andE hc
        obtain ⟨hc, k3⟩ := andE hc
        obtain ⟨hc, k2⟩ := andE hc
        obtain ⟨hc, k1⟩ := andE hc
        have k0 := hc
        obtain ⟨t, q_t, h_t⟩ := isE_inv k0
        injection q_t with qa_t qb_t
        subst qa_t
        subst qb_t
        have e_t : asNs (.sl _ _) = t := asNs_mk t
        have i_t := isNs_mk h_t
        obtain ⟨u, rfl, h_u⟩ := isE_inv k1
        have e_u : asIms (pIms u) = u := asIms_mk u
        have i_u := isIms_mk h_u
        obtain rfl := Nat.eq_of_beq_eq_true k2
        obtain rfl := Nat.eq_of_beq_eq_true k3
        try simp only [e_t, e_u] at k4
        obtain rfl := eq_of_beq k4
        try simp only [e_t, e_u] at k5
        obtain rfl := eq_of_beq k5
        try simp only [e_t, e_u] at k6
        have c0 := k6
        try simp only [e_t, e_u] at k7
        have c1 := k7
        try simp only [e_t, e_u] at k8
        have c2 := k8
        try simp only [e_t, e_u]
        have := redo16_loop h_u (imgs_all c1) u.length 0 t h_t c0 (by omega)
        rw [List.drop_zero, if_neg (by simpa using c2)] at this
        exact this
    · rename_i x0 p_u n i
      rcases pick3n hl with ⟨hc, he⟩ | ⟨hn, hc, he⟩ | ⟨hn, hn2, hc, he⟩
      · cases he
        obtain ⟨hc, k5⟩ := andE hc
        obtain ⟨hc, k4⟩ := andE hc
        obtain ⟨hc, k3⟩ := andE hc
        obtain ⟨hc, k2⟩ := andE hc
        obtain ⟨hc, k1⟩ := andE hc
        have k0 := hc
        obtain ⟨u, rfl, h_u⟩ := isE_inv k0
        have e_u : asIms (pIms u) = u := asIms_mk u
        have i_u := isIms_mk h_u
        obtain rfl := Nat.eq_of_beq_eq_true k1
        try rw [e_u] at k2
        obtain rfl := eq_of_beq k2
        try rw [e_u] at k3
        obtain rfl := eq_of_beq k3
        try simp only [e_u] at k4
        have c0 := k4
        try simp only [e_u] at k5
        have c1 := holds_inv k5
        try simp only [e_u]
        have := redo16n_loop h_u (imgs_all c0) u.length 0 (by omega)
        rw [List.drop_zero, if_pos (putL_nil0 u c1), holds_mk c1, if_pos rfl] at this
        exact this
      · cases he
        obtain ⟨hc, k6⟩ := andE hc
        obtain ⟨hc, k5⟩ := andE hc
        obtain ⟨hc, k4⟩ := andE hc
        obtain ⟨hc, k3⟩ := andE hc
        obtain ⟨hc, k2⟩ := andE hc
        obtain ⟨hc, k1⟩ := andE hc
        have k0 := hc
        obtain ⟨u, rfl, h_u⟩ := isE_inv k0
        have e_u : asIms (pIms u) = u := asIms_mk u
        have i_u := isIms_mk h_u
        obtain rfl := Nat.eq_of_beq_eq_true k1
        try rw [e_u] at k2
        obtain rfl := eq_of_beq k2
        try rw [e_u] at k3
        obtain rfl := eq_of_beq k3
        try simp only [e_u] at k4
        have c0 := k4
        try simp only [e_u] at k5
        have c1 := k5
        try simp only [e_u] at k6
        have c2 := of_decide_eq_true k6
        try simp only [e_u]
        have := redo16n_loop h_u (imgs_all c0) u.length 0 (by omega)
        rw [Bool.not_eq_true'] at c1
        rw [List.drop_zero, if_pos c2, c1, if_neg Bool.false_ne_true] at this
        exact this
      · cases he
        obtain ⟨hc, k6⟩ := andE hc
        obtain ⟨hc, k5⟩ := andE hc
        obtain ⟨hc, k4⟩ := andE hc
        obtain ⟨hc, k3⟩ := andE hc
        obtain ⟨hc, k2⟩ := andE hc
        obtain ⟨hc, k1⟩ := andE hc
        have k0 := hc
        obtain ⟨u, rfl, h_u⟩ := isE_inv k0
        have e_u : asIms (pIms u) = u := asIms_mk u
        have i_u := isIms_mk h_u
        obtain rfl := Nat.eq_of_beq_eq_true k1
        try rw [e_u] at k2
        obtain rfl := eq_of_beq k2
        try rw [e_u] at k3
        obtain rfl := eq_of_beq k3
        try simp only [e_u] at k4
        have c0 := k4
        try simp only [e_u] at k5
        have c1 := k5
        try simp only [e_u] at k6
        have c2 := k6
        try simp only [e_u]
        have := redo16n_loop h_u (imgs_all c0) u.length 0 (by omega)
        rw [Bool.not_eq_true'] at c1
        rw [List.drop_zero, if_neg (by simpa using c2), c1, if_neg Bool.false_ne_true] at this
        exact this
    · cases hl
theorem ok_redo : EntryOk Tryz.prog 83 E_redo := entry_of mix ok_bab3 (lp := lp_redo) (LO := LO_redo) ⟨Tryz.func83, by kernel_rfl, by kernel_rfl⟩ (by kernel_rfl) fun ivs res bxs h => by
  unfold E_redo at h
  split at h
  · rename_i e_t n_t l_t p_l
    obtain ⟨hc, he⟩ := pick1 h
    cases he
    obtain ⟨hc, k4⟩ := andE hc
    obtain ⟨hc, k3⟩ := andE hc
    obtain ⟨hc, k2⟩ := andE hc
    obtain ⟨hc, k1⟩ := andE hc
    have k0 := hc
    obtain ⟨t, q_t, h_t⟩ := isE_inv k0
    injection q_t with qa_t qb_t
    subst qa_t
    subst qb_t
    have e_t : asNs (.sl _ _) = t := asNs_mk t
    have i_t := isNs_mk h_t
    obtain ⟨l, rfl, h_l⟩ := isE_inv k1
    have e_l : asIms (pIms l) = l := asIms_mk l
    have i_l := isIms_mk h_l
    obtain rfl := Nat.eq_of_beq_eq_true k2
    try simp only [e_t, e_l] at k3
    have c0 := k3
    try simp only [e_t, e_l] at k4
    have c1 := k4
    try simp only [e_t, e_l]
    have hL := delL_sh l h_t
    have hLB := (delL_ok l t c0).1
    refine ⟨loops_redo, (q_redo_eq t l).trans ?_⟩
    simp only [isNs, isIms, i_t, i_l, asNs_mk, asIms_mk, e_l, e_t, holds_true, c0, c1, beq_self_eq_true, Nat.beq_refl, Bool.and_true, Bool.true_and, isNs_mk hL, hLB]
    unfold redoL
    cases hf : fitsL t l with
    | false => rfl
    | true =>
      rw [if_pos rfl]
      by_cases h0 : (putL l (delL l t)).2 = 0
      · rw [dT h0, h0]; rfl
      · rw [dF h0]; rfl
  · rename_i p_l
    rcases pick2 h with ⟨hc, he⟩ | ⟨hn, hc, he⟩
    · cases he
      obtain ⟨hc, k2⟩ := andE hc
      obtain ⟨hc, k1⟩ := andE hc
      have k0 := hc
      obtain ⟨l, rfl, h_l⟩ := isE_inv k0
      have e_l : asIms (pIms l) = l := asIms_mk l
      have i_l := isIms_mk h_l
      try simp only [e_l] at k1
      have c0 := k1
      try simp only [e_l] at k2
      have c1 := holds_inv k2
      try simp only [e_l]
      refine ⟨loops_redo, (q_redo0_eq l).trans ?_⟩
      have c1' := c1
      unfold redoL at c1' ⊢
      rw [delL_nil] at c1' ⊢
      simp only [isIms, i_l, asIms_mk, e_l, holds_true, c0, beq_self_eq_true, Nat.beq_refl, Bool.and_true, Bool.true_and]
      cases hf : fitsL [] l with
      | false => rfl
      | true =>
        rw [hf, if_pos rfl] at c1'
        rw [if_pos rfl, holds_mk c1', putL_nil0 l c1']
        rfl
    · cases he
      obtain ⟨hc, k2⟩ := andE hc
      obtain ⟨hc, k1⟩ := andE hc
      have k0 := hc
      obtain ⟨l, rfl, h_l⟩ := isE_inv k0
      have e_l : asIms (pIms l) = l := asIms_mk l
      have i_l := isIms_mk h_l
      try simp only [e_l] at k1
      have c0 := k1
      try simp only [e_l] at k2
      have c1 := k2
      try simp only [e_l]
      refine ⟨loops_redo, (q_redo0_eq l).trans ?_⟩
      rw [Bool.not_eq_true'] at c1
      have c1' := c1
      unfold redoL at c1' ⊢
      rw [delL_nil] at c1' ⊢
      simp only [isIms, i_l, asIms_mk, e_l, holds_true, c0, beq_self_eq_true, Nat.beq_refl, Bool.and_true, Bool.true_and]
      cases hf : fitsL [] l with
      | false =>
        rw [hf, if_neg Bool.false_ne_true] at c1'
        exact absurd (holds_mk (rfl : ([] : List NodeT) = [])) (by rw [c1']; decide)
      | true =>
        rw [hf, if_pos rfl] at c1'
        rw [if_pos rfl, c1']
        by_cases h0 : (putL l []).2 = 0
        · rw [dT h0, h0]; rfl
        · rw [dF h0]; rfl
  · cases h
theorem ok_bbb0 : EntriesOk Tryz.prog bbb0 := ⟨ok_redo, ok_bab3⟩
theorem ok_Redo : EntryOk Tryz.prog 21 E_Redo := entry_ofM mix ok_bbb0 (lp := lp_Redo) (LO := LO0) ⟨Tryz.func21, by kernel_rfl, by kernel_rfl⟩ (by kernel_rfl) fun ivs res bxs h => by
  unfold E_Redo at h
  split at h
  · rename_i p_t p_l
    obtain ⟨hc, he⟩ := pick1 h
    cases he
    obtain ⟨hc, k1⟩ := andE hc
    have k0 := hc
    obtain ⟨t, rfl, h_t⟩ := isE_inv k0
    have e_t : asT (pT t) = t := asT_mk t
    have i_t := isT_mk h_t
    obtain ⟨l, rfl, h_l⟩ := isE_inv k1
    have e_l : asIms (pIms l) = l := asIms_mk l
    have i_l := isIms_mk h_l
    try simp only [e_t, e_l]
    refine ⟨noLoop (by kernel_rfl), ?_⟩
    have tree := q_Redo_eq t l
    simp only [isT, isNs, isIms, i_t, i_l, isNs_mk h_t, asT_mk, asNs_mk, asIms_mk, Bool.and_true, Bool.true_and, Nat.beq_refl] at tree
    unfold redoV
    cases hB : treeB t with
    | false => rw [hB] at tree; exact ⟨.tup [.agg [.pv .nils], cI 1], tree.trans rfl, rfl, rfl⟩
    | true =>
      cases hI : imgsB l with
      | false => rw [hB, hI] at tree; exact ⟨.tup [.agg [.pv .nils], cI 1], tree.trans rfl, rfl, rfl⟩
      | true =>
        rw [hB, hI] at tree
        rw [Bool.and_self, if_pos rfl]
        cases hN : holds (t = []) with
        | true =>
          rw [hN] at tree
          have := holds_inv hN
          subst this
          by_cases h0 : (redoL [] l).2 = 0
          · rw [if_pos h0]
            rw [show ((redoL [] l).2 != 0) = false from by rw [h0]; rfl] at tree
            cases hr : holds ((redoL [] l).1 = []) with
            | true =>
              rw [hr] at tree
              have e := holds_inv hr
              rw [h0]
              refine ⟨.tup [.agg [.pv .nils], cI 0], tree.trans rfl, rfl, ?_⟩
              unfold pNs
              rw [e]
              rfl
            | false =>
              rw [hr] at tree
              rw [h0]
              exact ⟨.tup [.agg [lN (redoL [] l).1], cI 0], tree.trans rfl, rfl, rfl⟩
          · rw [if_neg h0]
            rw [show ((redoL [] l).2 != 0) = true from by simpa using h0] at tree
            cases hr : holds ((redoL [] l).1 = []) with
            | true => rw [hr] at tree; exact ⟨.tup [.agg [.pv .nils], cI (redoL [] l).2], tree.trans rfl, rfl, rfl⟩
            | false => rw [hr] at tree; exact ⟨.tup [.agg [.pv .nils], cI (redoL [] l).2], tree.trans rfl, rfl, rfl⟩
        | false =>
          rw [hN] at tree
          by_cases h0 : (redoL t l).2 = 0
          · rw [if_pos h0]
            rw [show ((redoL t l).2 != 0) = false from by rw [h0]; rfl] at tree
            rw [h0]
            exact ⟨.tup [.agg [lN (redoL t l).1], cI 0], tree.trans rfl, rfl, rfl⟩
          · rw [if_neg h0]
            rw [show ((redoL t l).2 != 0) = true from by simpa using h0] at tree
            exact ⟨.tup [.agg [.pv .nils], cI (redoL t l).2], tree.trans rfl, rfl, rfl⟩
  · cases h
theorem ok_bbb1 : EntriesOk Tryz.prog bbb1 := ⟨ok_Redo, ok_bbb0⟩
theorem Undo_loop (t : List NodeT) (l : List ImT) (h : shIms l) : ∀ (m i : Nat), m + i = l.length → LoopsTo (rdB brC Tryz.prog bbb1 lp_Undo LO_Undo Tryz.f22 3 []) [aBx 2 [.pv (pNs t)], aBx 4 [.pv .nils], aL 6 6 109 i (encIm ((l.take i).map swapI)), aP (pIms l), aI l.length, aI i]
    (.exit 0, [aBx 2 [.pv (pNs t)], aBx 4 [.pv .nils], aL 6 6 109 (l.map swapI).length (encIm (l.map swapI))]) := by
  have hl := h.1
  intro m
  induction m with
  | zero =>
    intro i hm
    obtain rfl : i = l.length := by omega
    rw [List.take_length, List.length_map]
    refine .done _ _ ((r_Undo_eq t l.length _ l l.length).trans ?_)
    rw [dF (by omega)]
    rfl
  | succ m ih =>
    intro i hm
    have hi : i < l.length := by omega
    have hs := shIm_at h hi
    have ih' := ih (i + 1) (by omega)
    rw [List.take_succ_eq_append_getElem hi, List.map_append, encIm_app] at ih'
    have tree := r_Undo_eq t i (encIm ((l.take i).map swapI)) l i
    simp (disch := first | omega | rfl) only [drop_encIm l i hi, decide_true, dT, Int.toNat_natCast, List.length_cons, List.headD_cons, List.tail_cons, List.drop_zero, List.drop_succ_cons, PV.isStr, PV.asStr, PV.isSl, PV.slN, PV.slL, PV.isInt, PV.asInt, PV.isBool, PV.asBool, ble1, ble2, ble3, ble4, ble5, ble6, blt0, wrap1, Bool.and_true, Bool.true_and] at tree
    exact .step _ _ _ tree ih'
theorem loops_Undo : ∀ b ∈ loopsIn (bodyOf Tryz.f22), LoopOk Tryz.prog (tabL bbb1) (OL lp_Undo) Tryz.f22.ntmps (pbOf []) LO_Undo b := by
  refine oneLoop 3 (by kernel_rfl) (by kernel_rfl) (by kernel_rfl) ?_
  intro ls e ls' hl
  replace hl : pickA (LO_Undo_3 ls) = some (e, ls') := hl
  unfold LO_Undo_3 at hl
  split at hl
  · rename_i p_t x2 x4 x6 e3 n3 l3 p_l n i
    obtain ⟨hc, he⟩ := pick1 hl
    cases he
    obtain ⟨hc, k9⟩ := andE hc
    obtain ⟨hc, k8⟩ := andE hc
    obtain ⟨hc, k7⟩ := andE hc
    obtain ⟨hc, k6⟩ := andE hc
    obtain ⟨hc, k5⟩ := andE hc
    obtain ⟨hc, k4⟩ := andE hc
    obtain ⟨hc, k3⟩ := andE hc
    obtain ⟨hc, k2⟩ := andE hc
    obtain ⟨hc, k1⟩ := andE hc
    have k0 := hc
    obtain ⟨t, rfl, h_t⟩ := isE_inv k0
    have e_t : asNs (pNs t) = t := asNs_mk t
    have i_t := isNs_mk h_t
    obtain ⟨l, rfl, h_l⟩ := isE_inv k1
    have e_l : asIms (pIms l) = l := asIms_mk l
    have i_l := isIms_mk h_l
    obtain rfl := Nat.eq_of_beq_eq_true k2
    obtain rfl := Nat.eq_of_beq_eq_true k3
    obtain rfl := Nat.eq_of_beq_eq_true k4
    obtain rfl := Nat.eq_of_beq_eq_true k5
    obtain rfl := Nat.eq_of_beq_eq_true k6
    obtain rfl := nilB_inv k7
    try simp only [e_t, e_l] at k8
    obtain rfl := eq_of_beq k8
    try simp only [e_t, e_l] at k9
    obtain rfl := eq_of_beq k9
    try simp only [e_t, e_l]
    exact Undo_loop t l h_l l.length 0 (by omega)
  · cases hl
theorem ok_Undo : EntryOk Tryz.prog 22 E_Undo := entry_of mix ok_bbb1 (lp := lp_Undo) (LO := LO_Undo) ⟨Tryz.func22, by kernel_rfl, by kernel_rfl⟩ (by kernel_rfl) fun ivs res bxs h => by
  unfold E_Undo at h
  split at h
  · rename_i p_t p_l
    obtain ⟨hc, he⟩ := pick1 h
    cases he
    obtain ⟨hc, k1⟩ := andE hc
    have k0 := hc
    obtain ⟨t, rfl, h_t⟩ := isE_inv k0
    have e_t : asT (pT t) = t := asT_mk t
    have i_t := isT_mk h_t
    obtain ⟨l, rfl, h_l⟩ := isE_inv k1
    have e_l : asIms (pIms l) = l := asIms_mk l
    have i_l := isIms_mk h_l
    try simp only [e_t, e_l]
    have hm : shIms (l.map swapI) := ⟨by rw [List.length_map]; exact h_l.1, fun x hx => by
      obtain ⟨y, hy, rfl⟩ := List.mem_map.1 hx
      obtain ⟨a, b, c, d⟩ := h_l.2 y hy
      exact ⟨a, b, d, c⟩⟩
    refine ⟨loops_Undo, (q_Undo_eq t l).trans ?_⟩
    simp only [isT, isNs, isIms, i_t, i_l, isNs_mk h_t, isIms_mk hm, asT_mk, asNs_mk, asIms_mk, e_l, nilB_mk, beq_self_eq_true, Bool.and_true, Bool.true_and, Nat.beq_refl]
    rfl
  · cases h
end
end Go.Proofs.YtdpndampalapfaaGreatDoor
