/- Patterns: what one match, repeated matches and lists of items reach; plain laws on sets of places. -/
import Derived.Test.YtdegegajoccdjaaGfP
namespace Go.Proofs.Ytdegegajoccdjaa
open Go.RowKit
set_option linter.unusedVariables false
set_option linter.unusedSimpArgs false

theorem set_take {α : Type} {l : List α} {i : Nat} (h : i < l.length) (x : α) : l.take i ++ x :: l.drop (i + 1) = l.set i x := by
  rw [List.set_eq_take_append_cons_drop, if_pos h]
theorem tr_set {l : List Bool} {t j : Nat} (ht : t < l.length) : tr (l.set t true) j ↔ j = t ∨ tr l j := by
  unfold tr
  rw [List.getElem?_set]
  by_cases h : t = j
  · subst h
    simp [ht]
  · simp [h]
    exact fun k => absurd k.symm h
theorem setL_set {n : Nat} {P Q : Nat → Prop} {t : Nat} (ht : t ≤ n) (h : ∀ j, j ≤ n → (Q j ↔ j = t ∨ P j)) : setL n Q = (setL n P).set t true :=
  set_ext (by rw [List.length_set, setL_len, setL_len]) fun j => by
    rw [tr_set (by rw [setL_len]; omega), tr_setL, tr_setL]
    constructor
    · rintro ⟨h1, h2⟩
      rcases (h j h1).1 h2 with h3 | h3
      · exact .inl h3
      · exact .inr ⟨h1, h3⟩
    · rintro (rfl | ⟨h1, h2⟩)
      · exact ⟨ht, (h _ ht).2 (.inl rfl)⟩
      · exact ⟨h1, (h _ h1).2 (.inr h2)⟩
theorem setL_none {n : Nat} {P : Nat → Prop} (h : ∀ j, ¬ P j) : setL n P = List.replicate (n + 1) false :=
  set_ext (by rw [setL_len, List.length_replicate]) fun j => by
    rw [tr_setL]
    unfold tr
    rw [List.getElem?_replicate]
    constructor
    · rintro ⟨_, h2⟩; exact absurd h2 (h j)
    · intro h2; split at h2 <;> cases h2
/-- One match of an item's codes or its text. -/
def SimpR (s : List UInt8) (p : PatT) (i j : Nat) : Prop :=
  if p.codes.data.toList ≠ [] then (∃ x, s[i]? = some x ∧ p.codes.data.toList.any (fun k => inCodeB k x) = true) ∧ j = i + 1
  else if p.text.data.toList ≠ [] then i ≤ s.length ∧ (s.drop i).take p.text.data.toList.length = p.text.data.toList ∧ j = i + p.text.data.toList.length else False
theorem OnceR_eq (s : List UInt8) (p : PatT) (i j : Nat) : OnceR s p i j ↔ SimpR s p i j ∨ AltR s p.alts i j := by
  cases p
  unfold OnceR SimpR
  exact Iff.rfl
theorem AltR_nil (s : List UInt8) (i j : Nat) : AltR s [] i j ↔ False := by unfold AltR; exact Iff.rfl
theorem AltR_cons (s : List UInt8) (x : List PatT) (r : List (List PatT)) (i j : Nat) : AltR s (x :: r) i j ↔ AllR s x i j ∨ AltR s r i j := by
  conv => lhs; unfold AltR
theorem AltR_app (s : List UInt8) : ∀ (a b : List (List PatT)) (i j : Nat), AltR s (a ++ b) i j ↔ AltR s a i j ∨ AltR s b i j
  | [], b, i, j => by rw [List.nil_append, AltR_nil, false_or]
  | x :: a, b, i, j => by
    rw [List.cons_append, AltR_cons, AltR_cons, AltR_app s a b i j, or_assoc]
/-- What is reached by codes and texts from the places ahead of i. -/
noncomputable def firstTo (s : List UInt8) (p : PatT) (bs : List Bool) (i : Nat) : List Bool := setL s.length fun j => ∃ a, a < i ∧ tr bs a ∧ SimpR s p a j
theorem firstTo_len (s : List UInt8) (p : PatT) (bs : List Bool) (i : Nat) : (firstTo s p bs i).length = s.length + 1 := setL_len _ _
theorem firstTo_zero (s : List UInt8) (p : PatT) (bs : List Bool) : firstTo s p bs 0 = List.replicate (s.length + 1) false := setL_none fun j ⟨a, h, _⟩ => by omega
theorem firstTo_same {s : List UInt8} {p : PatT} {bs : List Bool} {i : Nat} (h : ∀ j, tr bs i → ¬ SimpR s p i j) : firstTo s p bs (i + 1) = firstTo s p bs i :=
  setL_congr fun j hj => by
    constructor
    · rintro ⟨a, h1, h2, h3⟩
      rcases Nat.lt_or_ge a i with k | k
      · exact ⟨a, k, h2, h3⟩
      · obtain rfl : a = i := by omega
        exact absurd h3 (h j h2)
    · rintro ⟨a, h1, h2, h3⟩
      exact ⟨a, by omega, h2, h3⟩
theorem firstTo_set {s : List UInt8} {p : PatT} {bs : List Bool} {i t : Nat} (ht : t ≤ s.length) (hb : tr bs i) (h : ∀ j, SimpR s p i j ↔ j = t) : firstTo s p bs (i + 1) = (firstTo s p bs i).set t true :=
  setL_set ht fun j hj => by
    constructor
    · rintro ⟨a, h1, h2, h3⟩
      rcases Nat.lt_or_ge a i with k | k
      · exact .inr ⟨a, k, h2, h3⟩
      · obtain rfl : a = i := by omega
        exact .inl ((h j).1 h3)
    · rintro (rfl | ⟨a, h1, h2, h3⟩)
      · exact ⟨i, by omega, hb, (h _).2 rfl⟩
      · exact ⟨a, by omega, h2, h3⟩
/-- .. and by alternatives. -/
noncomputable def altU (s : List UInt8) (al : List (List PatT)) (bs : List Bool) : List Bool := imgL s.length (AltR s al) bs
theorem altU_len (s : List UInt8) (al : List (List PatT)) (bs : List Bool) : (altU s al bs).length = s.length + 1 := imgL_len _ _ _
theorem altU_zero {s : List UInt8} {al : List (List PatT)} {bs a : List Bool} (ha : a.length = s.length + 1) : orL a (altU s (al.take 0) bs) = a :=
  set_ext (by rw [orL_len (by rw [altU_len, ha])]) fun j => by
    rw [tr_orL (by rw [altU_len, ha])]
    unfold altU
    rw [tr_imgL, List.take_zero]
    exact ⟨fun h => h.elim id fun ⟨_, i, _, h⟩ => ((AltR_nil s i j).1 h).elim, .inl⟩
theorem altU_succ {s : List UInt8} {al : List (List PatT)} {bs a : List Bool} (ha : a.length = s.length + 1) {k : Nat} (hk : k < al.length) : orL (orL a (altU s (al.take k) bs)) (imgL s.length (AllR s al[k]) bs) = orL a (altU s (al.take (k + 1)) bs) :=
  set_ext (by rw [orL_len (by rw [orL_len (by rw [altU_len, ha]), imgL_len, ha]), orL_len (by rw [altU_len, ha]), orL_len (by rw [altU_len, ha])]) fun j => by
    rw [tr_orL (by rw [orL_len (by rw [altU_len, ha]), imgL_len, ha]), tr_orL (by rw [altU_len, ha]), tr_orL (by rw [altU_len, ha])]
    unfold altU
    rw [tr_imgL, tr_imgL, tr_imgL, List.take_succ_eq_append_getElem hk, or_assoc]
    refine or_congr_right ?_
    constructor
    · rintro (⟨h1, i, h2, h3⟩ | ⟨h1, i, h2, h3⟩)
      · exact ⟨h1, i, h2, (AltR_app s _ _ i j).2 (.inl h3)⟩
      · exact ⟨h1, i, h2, (AltR_app s _ _ i j).2 (.inr ((AltR_cons s _ _ i j).2 (.inl h3)))⟩
    · rintro ⟨h1, i, h2, h3⟩
      rcases (AltR_app s _ _ i j).1 h3 with h3 | h3
      · exact .inl ⟨h1, i, h2, h3⟩
      · rcases (AltR_cons s _ _ i j).1 h3 with h3 | h3
        · exact .inr ⟨h1, i, h2, h3⟩
        · exact ((AltR_nil s i j).1 h3).elim
theorem once_first {s : List UInt8} {p : PatT} {bs : List Bool} (hb : bs.length = s.length + 1) : orL (firstTo s p bs bs.length) (altU s p.alts bs) = imgL s.length (OnceR s p) bs :=
  set_ext (by rw [orL_len (by rw [firstTo_len, altU_len]), firstTo_len, imgL_len]) fun j => by
    rw [tr_orL (by rw [firstTo_len, altU_len])]
    unfold firstTo altU
    rw [tr_setL, tr_imgL, tr_imgL]
    constructor
    · rintro (⟨h1, i, _, h2, h3⟩ | ⟨h1, i, h2, h3⟩)
      · exact ⟨h1, i, h2, (OnceR_eq s p i j).2 (.inl h3)⟩
      · exact ⟨h1, i, h2, (OnceR_eq s p i j).2 (.inr h3)⟩
    · rintro ⟨h1, i, h2, h3⟩
      rcases (OnceR_eq s p i j).1 h3 with h3 | h3
      · exact .inl ⟨h1, i, tr_lt h2, h2, h3⟩
      · exact .inr ⟨h1, i, h2, h3⟩
/-! An item. -/
noncomputable def nowL (s : List UInt8) (p : PatT) (bs : List Bool) (k : Nat) : List Bool := imgL s.length (Iter (OnceR s p) k) bs
noncomputable def reachL (s : List UInt8) (p : PatT) (bs : List Bool) (lo k : Nat) : List Bool := imgL s.length (Upto (OnceR s p) lo k) bs
theorem nowL_len (s : List UInt8) (p : PatT) (bs : List Bool) (k : Nat) : (nowL s p bs k).length = s.length + 1 := imgL_len _ _ _
theorem reachL_len (s : List UInt8) (p : PatT) (bs : List Bool) (lo k : Nat) : (reachL s p bs lo k).length = s.length + 1 := imgL_len _ _ _
theorem nowL_zero {s : List UInt8} {p : PatT} {bs : List Bool} (hb : bs.length = s.length + 1) : nowL s p bs 0 = bs := by
  unfold nowL
  exact (imgL_congr hb fun i j _ _ => (show Iter (OnceR s p) 0 i j ↔ i = j from Iff.rfl)).trans (imgL_id hb)
theorem once_ok (s : List UInt8) (p : PatT) : ∀ i j, i ≤ s.length → OnceR s p i j → i ≤ j ∧ j ≤ s.length := fun i j hi h => OnceR_le s p hi h
theorem nowL_succ {s : List UInt8} {p : PatT} {bs : List Bool} (hb : bs.length = s.length + 1) (k : Nat) : imgL s.length (OnceR s p) (nowL s p bs k) = nowL s p bs (k + 1) := by
  unfold nowL
  rw [imgL_comp hb (fun i j hi h => (Iter_le (once_ok s p) h hi).2)]
  exact imgL_congr hb fun i j _ _ => Iff.rfl
theorem reachL_self {s : List UInt8} {p : PatT} {bs : List Bool} (hb : bs.length = s.length + 1) (k : Nat) : reachL s p bs k k = nowL s p bs k := by
  unfold reachL nowL
  refine imgL_congr hb fun i j _ _ => ⟨fun ⟨m, h1, h2, h3⟩ => ?_, fun h => ⟨k, Nat.le_refl _, Nat.le_refl _, h⟩⟩
  obtain rfl : m = k := by omega
  exact h3
theorem reachL_succ {s : List UInt8} {p : PatT} {bs : List Bool} (hb : bs.length = s.length + 1) {lo k : Nat} (h : lo ≤ k) : orL (reachL s p bs lo k) (nowL s p bs (k + 1)) = reachL s p bs lo (k + 1) := by
  unfold reachL nowL
  rw [imgL_or]
  refine imgL_congr hb fun i j _ _ => ?_
  constructor
  · rintro (⟨m, h1, h2, h3⟩ | h3)
    · exact ⟨m, h1, by omega, h3⟩
    · exact ⟨k + 1, by omega, Nat.le_refl _, h3⟩
  · rintro ⟨m, h1, h2, h3⟩
    rcases Nat.lt_or_ge k m with hm | hm
    · obtain rfl : m = k + 1 := by omega
      exact .inr h3
    · exact .inl ⟨m, h1, hm, h3⟩
noncomputable def itemL (s : List UInt8) (p : PatT) (bs : List Bool) : List Bool := imgL s.length (ItemR s p) bs
theorem itemL_len (s : List UInt8) (p : PatT) (bs : List Bool) : (itemL s p bs).length = s.length + 1 := imgL_len _ _ _
theorem itemL_upto {s : List UInt8} {p : PatT} {bs : List Bool} (hb : bs.length = s.length + 1) {lo hi : Nat} (h1 : p.low = lo) (h2 : p.high = hi) : itemL s p bs = reachL s p bs lo hi := by
  unfold itemL reachL
  refine imgL_congr hb fun i j _ _ => ?_
  unfold ItemR times Upto
  constructor
  · rintro ⟨k, ⟨h3, h4⟩, h5⟩
    exact ⟨k, by omega, by omega, h5⟩
  · rintro ⟨k, h3, h4, h5⟩
    exact ⟨k, ⟨by omega, by omega⟩, h5⟩
theorem itemL_all {s : List UInt8} {p : PatT} {bs : List Bool} (hb : bs.length = s.length + 1) {lo k : Nat} (h1 : p.low = lo) (h2 : p.high = -1) (hk : lo ≤ k) (hm : moreB (reachL s p bs lo k) (nowL s p bs (k + 1)) = false) : itemL s p bs = reachL s p bs lo (k + 1) := by
  have h3 := (moreB_false (by rw [reachL_len, nowL_len])).1 hm
  have h4 := upto_all hb (once_ok s p) h3 hk
  have e : itemL s p bs = reachL s p bs lo k := by
    unfold reachL
    rw [h4]
    refine imgL_congr hb fun i j _ _ => ?_
    unfold ItemR times
    exact ⟨fun ⟨k, ⟨h3, h4⟩, h5⟩ => ⟨k, by omega, h5⟩, fun ⟨k, h3, h5⟩ => ⟨k, ⟨by omega, .inl h2⟩, h5⟩⟩
  rw [e, ← reachL_succ hb hk]
  refine set_ext (by rw [orL_len (by rw [reachL_len, nowL_len])]) fun j => ?_
  rw [tr_orL (by rw [reachL_len, nowL_len])]
  exact ⟨.inl, fun h => h.elim id (h3 j)⟩
/-! A list of items. -/
noncomputable def allL (s : List UInt8) (l : List PatT) (bs : List Bool) : List Bool := imgL s.length (AllR s l) bs
theorem allL_len (s : List UInt8) (l : List PatT) (bs : List Bool) : (allL s l bs).length = s.length + 1 := imgL_len _ _ _
theorem allL_nil {s : List UInt8} {bs : List Bool} (hb : bs.length = s.length + 1) : allL s [] bs = bs := by
  unfold allL
  exact (imgL_congr hb fun i j _ _ => (show AllR s [] i j ↔ i = j from by unfold AllR; exact Iff.rfl)).trans (imgL_id hb)
theorem allL_succ {s : List UInt8} {l : List PatT} {bs : List Bool} (hb : bs.length = s.length + 1) {k : Nat} (hk : k < l.length) : itemL s l[k] (allL s (l.take k) bs) = allL s (l.take (k + 1)) bs := by
  unfold itemL allL
  rw [imgL_comp hb (fun i j hi h => (AllR_le s _ hi h).2), List.take_succ_eq_append_getElem hk]
  refine imgL_congr hb fun i j _ _ => ?_
  rw [AllR_app]
  refine exists_congr fun m => and_congr_right fun _ => ?_
  rw [AllR_cons]
  constructor
  · intro h
    exact ⟨j, h, by unfold AllR; rfl⟩
  · rintro ⟨m', h, h'⟩
    unfold AllR at h'
    exact h' ▸ h
/-- The whole text. -/
noncomputable def matchB (s : List UInt8) (l : List PatT) : Bool := holds (Whole s l)
theorem match_all (s : List UInt8) (l : List PatT) : (allL s l (true :: List.replicate s.length false))[s.length]? = some (matchB s l) := by
  have hl := allL_len s l (true :: List.replicate s.length false)
  rw [List.getElem?_eq_getElem (by omega), Option.some.injEq, Bool.eq_iff_iff]
  have h := tr_imgL (n := s.length) (R := AllR s l) (bs := true :: List.replicate s.length false) (j := s.length)
  unfold tr at h
  rw [List.getElem?_eq_getElem (by rw [imgL_len]; omega), Option.some.injEq] at h
  rw [show (allL s l (true :: List.replicate s.length false))[s.length] = (imgL s.length (AllR s l) (true :: List.replicate s.length false))[s.length]'(by rw [imgL_len]; omega) from rfl, h]
  unfold matchB Whole
  rw [holds_iff]
  constructor
  · rintro ⟨_, i, h1, h2⟩
    cases i with
    | zero => exact h2
    | succ i =>
      rw [List.getElem?_cons_succ, List.getElem?_replicate] at h1
      split at h1 <;> cases h1
  · intro h2
    exact ⟨Nat.le_refl _, 0, rfl, h2⟩
end Go.Proofs.Ytdegegajoccdjaa
