/- Patterns: plain data, how they lie in cells, what they match, and what holds of that. -/
import Derived.Test.YtdegegajoccdjaaVxE
namespace Go.Proofs.Ytdegegajoccdjaa
open Go.RowKit
set_option linter.unusedVariables false
set_option linter.unusedSimpArgs false

inductive PatT where
  | mk (low high : Int) (codes text : ByteArray) (alts : List (List PatT))
deriving Inhabited
def PatT.low : PatT → Int | .mk x _ _ _ _ => x
def PatT.high : PatT → Int | .mk _ x _ _ _ => x
def PatT.codes : PatT → ByteArray | .mk _ _ x _ _ => x
def PatT.text : PatT → ByteArray | .mk _ _ _ x _ => x
def PatT.alts : PatT → List (List PatT) | .mk _ _ _ _ x => x
mutual
def encPt : List PatT → List PV
  | [] => []
  | .mk lo hi c t al :: r => .int .i64 lo :: .int .i64 hi :: .str c :: .str t :: .sl al.length (encAl al) :: encPt r
def encAl : List (List PatT) → List PV
  | [] => []
  | x :: r => .sl x.length (encPt x) :: encAl r
end
mutual
theorem encPt_inj : ∀ {t u : List PatT}, encPt t = encPt u → t = u
  | [], [], _ => rfl
  | [], .mk _ _ _ _ _ :: _, h => by simp [encPt] at h
  | .mk _ _ _ _ _ :: _, [], h => by simp [encPt] at h
  | .mk lo hi c t al :: r, .mk lo' hi' c' t' al' :: r', h => by
    simp only [encPt, List.cons.injEq, PV.int.injEq, PV.str.injEq, PV.sl.injEq] at h
    obtain ⟨⟨_, rfl⟩, ⟨_, rfl⟩, rfl, rfl, ⟨_, h1⟩, h2⟩ := h
    rw [encAl_inj h1, encPt_inj h2]
theorem encAl_inj : ∀ {t u : List (List PatT)}, encAl t = encAl u → t = u
  | [], [], _ => rfl
  | [], _ :: _, h => by simp [encAl] at h
  | _ :: _, [], h => by simp [encAl] at h
  | x :: r, y :: r', h => by
    simp only [encAl, List.cons.injEq, PV.sl.injEq] at h
    obtain ⟨⟨_, h1⟩, h2⟩ := h
    rw [encPt_inj h1, encAl_inj h2]
end
/-! What is right. -/
mutual
def depP : List PatT → Nat
  | [] => 0
  | .mk _ _ _ _ al :: r => max (depA al) (depP r)
def depA : List (List PatT) → Nat
  | [] => 0
  | x :: r => max (depP x + 1) (depA r)
end
mutual
/-- Sizes within bounds, nesting within d. -/
def shPt : Nat → List PatT → Prop
  | _, [] => True
  | d, .mk lo hi c t al :: r => (-9223372036854775808 ≤ lo ∧ lo ≤ 9223372036854775807) ∧ (-9223372036854775808 ≤ hi ∧ hi ≤ 9223372036854775807) ∧ c.size ≤ 1000000 ∧ t.size ≤ 1000000 ∧ al.length ≤ 1000 ∧ (al = [] ∨ 0 < d) ∧ shAl (d - 1) al ∧ shPt d r
def shAl : Nat → List (List PatT) → Prop
  | _, [] => True
  | d, x :: r => x.length ≤ 1000 ∧ shPt d x ∧ shAl d r
end
/-! What a pattern matches: 'R s p i j': from place i to place j. -/
def Iter (R : Nat → Nat → Prop) : Nat → Nat → Nat → Prop
  | 0, i, j => i = j
  | k + 1, i, j => ∃ m, Iter R k i m ∧ R m j
/-- A byte belongs to a code. -/
def lowerB (c : UInt8) : Bool := decide (97 ≤ c.toNat) && decide (c.toNat ≤ 122)
def upperB (c : UInt8) : Bool := decide (65 ≤ c.toNat) && decide (c.toNat ≤ 90)
def digitU (c : UInt8) : Bool := decide (48 ≤ c.toNat) && decide (c.toNat ≤ 57)
def inCodeB (code c : UInt8) : Bool :=
  if code = 65 then lowerB c || upperB c
  else if code = 67 then decide (c.toNat < 32) || decide (c.toNat = 127)
  else if code = 69 then true
  else if code = 76 then lowerB c
  else if code = 78 then digitU c
  else if code = 80 then decide (32 ≤ c.toNat) && decide (c.toNat ≤ 126) && !lowerB c && !upperB c && !digitU c
  else if code = 85 then upperB c
  else false
def times (lo hi : Int) (k : Nat) : Prop := lo ≤ k ∧ (hi = -1 ∨ (k : Int) ≤ hi)
mutual
def OnceR (s : List UInt8) : PatT → Nat → Nat → Prop
  | .mk lo hi c t al => fun i j => (if c.data.toList ≠ [] then (∃ x, s[i]? = some x ∧ c.data.toList.any (fun k => inCodeB k x) = true) ∧ j = i + 1
      else if t.data.toList ≠ [] then i ≤ s.length ∧ (s.drop i).take t.data.toList.length = t.data.toList ∧ j = i + t.data.toList.length else False) ∨ AltR s al i j
def AltR (s : List UInt8) : List (List PatT) → Nat → Nat → Prop
  | [] => fun _ _ => False
  | x :: r => fun i j => AllR s x i j ∨ AltR s r i j
def AllR (s : List UInt8) : List PatT → Nat → Nat → Prop
  | [] => fun i j => i = j
  | .mk lo hi c t al :: r => fun i j => ∃ m, (∃ k, times lo hi k ∧ Iter (OnceR s (.mk lo hi c t al)) k i m) ∧ AllR s r m j
end
abbrev ItemR (s : List UInt8) (p : PatT) (i j : Nat) : Prop := ∃ k, times p.low p.high k ∧ Iter (OnceR s p) k i j
theorem AllR_cons (s : List UInt8) (p : PatT) (r : List PatT) (i j : Nat) : AllR s (p :: r) i j ↔ ∃ m, ItemR s p i m ∧ AllR s r m j := by
  cases p
  exact Iff.rfl
theorem Iter_le {R : Nat → Nat → Prop} {n : Nat} (h : ∀ i j, i ≤ n → R i j → i ≤ j ∧ j ≤ n) : ∀ {k i j : Nat}, Iter R k i j → i ≤ n → i ≤ j ∧ j ≤ n
  | 0, i, j, hi, hn => by cases hi; exact ⟨Nat.le_refl _, hn⟩
  | k + 1, i, j, ⟨m, h1, h2⟩, hn => by
    have := Iter_le h h1 hn
    have := h m j this.2 h2
    omega
theorem Iter_map {R R' : Nat → Nat → Prop} {n c : Nat} (h : ∀ i j, i ≤ n → R i j → i ≤ j ∧ j ≤ n) (hm : ∀ i j, i ≤ n → R i j → R' (c + i) (c + j)) : ∀ {k i j : Nat}, i ≤ n → Iter R k i j → Iter R' k (c + i) (c + j)
  | 0, i, j, hn, hi => by cases hi; rfl
  | k + 1, i, j, hn, ⟨m, h1, h2⟩ => ⟨c + m, Iter_map h hm hn h1, hm m j (Iter_le h h1 hn).2 h2⟩
mutual
theorem OnceR_le (s : List UInt8) : ∀ (p : PatT) {i j : Nat}, i ≤ s.length → OnceR s p i j → i ≤ j ∧ j ≤ s.length
  | .mk lo hi c t al, i, j, hn, h => by
    unfold OnceR at h
    rcases h with h | h
    · split at h
      · obtain ⟨⟨x, hx, _⟩, rfl⟩ := h
        have := (List.getElem?_eq_some_iff.1 hx).1
        omega
      · split at h
        · obtain ⟨h1, h2, rfl⟩ := h
          have := congrArg List.length h2
          rw [List.length_take, List.length_drop] at this
          omega
        · exact h.elim
    · exact AltR_le s al hn h
theorem AltR_le (s : List UInt8) : ∀ (al : List (List PatT)) {i j : Nat}, i ≤ s.length → AltR s al i j → i ≤ j ∧ j ≤ s.length
  | [], i, j, hn, h => by unfold AltR at h; exact h.elim
  | x :: r, i, j, hn, h => by
    unfold AltR at h
    rcases h with h | h
    · exact AllR_le s x hn h
    · exact AltR_le s r hn h
theorem AllR_le (s : List UInt8) : ∀ (l : List PatT) {i j : Nat}, i ≤ s.length → AllR s l i j → i ≤ j ∧ j ≤ s.length
  | [], i, j, hi, h => by unfold AllR at h; omega
  | .mk lo hi c t al :: r, i, j, hn, h => by
    unfold AllR at h
    obtain ⟨m, ⟨k, _, h1⟩, h2⟩ := h
    have h3 := Iter_le (fun i j hn h => OnceR_le s (.mk lo hi c t al) hn h) h1 hn
    have h4 := AllR_le s r h3.2 h2
    omega
end
mutual
/-- What is matched is matched within a longer text, too. -/
theorem OnceR_in (a b s : List UInt8) : ∀ (p : PatT) {i j : Nat}, i ≤ s.length → OnceR s p i j → OnceR (a ++ s ++ b) p (a.length + i) (a.length + j)
  | .mk lo hi c t al, i, j, hn, h => by
    unfold OnceR at h ⊢
    rcases h with h | h
    · left
      split at h
      · rename_i hc
        rw [if_pos hc]
        obtain ⟨⟨x, hx, h2⟩, rfl⟩ := h
        have hl := (List.getElem?_eq_some_iff.1 hx).1
        refine ⟨⟨x, ?_, h2⟩, by omega⟩
        rw [List.append_assoc, List.getElem?_append_right (by omega), Nat.add_sub_cancel_left, List.getElem?_append_left hl]
        exact hx
      · rename_i hc
        rw [if_neg hc]
        split at h
        · rename_i ht
          rw [if_pos ht]
          obtain ⟨h1, h2, rfl⟩ := h
          have hl := congrArg List.length h2
          rw [List.length_take, List.length_drop] at hl
          refine ⟨by simp; omega, ?_, by omega⟩
          rw [List.append_assoc, List.drop_append, List.drop_eq_nil_of_le (by omega), List.nil_append, Nat.add_sub_cancel_left, List.drop_append_of_le_length (by omega), List.take_append_of_le_length (by rw [List.length_drop]; omega)]
          exact h2
        · exact h.elim
    · exact .inr (AltR_in a b s al hn h)
theorem AltR_in (a b s : List UInt8) : ∀ (al : List (List PatT)) {i j : Nat}, i ≤ s.length → AltR s al i j → AltR (a ++ s ++ b) al (a.length + i) (a.length + j)
  | [], i, j, hn, h => by unfold AltR at h; exact h.elim
  | x :: r, i, j, hn, h => by
    unfold AltR at h ⊢
    rcases h with h | h
    · exact .inl (AllR_in a b s x hn h)
    · exact .inr (AltR_in a b s r hn h)
theorem AllR_in (a b s : List UInt8) : ∀ (l : List PatT) {i j : Nat}, i ≤ s.length → AllR s l i j → AllR (a ++ s ++ b) l (a.length + i) (a.length + j)
  | [], i, j, hi, h => by unfold AllR at h ⊢; omega
  | .mk lo hi c t al :: r, i, j, hn, h => by
    unfold AllR at h ⊢
    obtain ⟨m, ⟨k, h0, h1⟩, h2⟩ := h
    have h3 := Iter_le (fun i j hn h => OnceR_le s (.mk lo hi c t al) hn h) h1 hn
    exact ⟨a.length + m, ⟨k, h0, Iter_map (fun i j hn h => OnceR_le s (.mk lo hi c t al) hn h) (fun i j hn h => OnceR_in a b s (.mk lo hi c t al) hn h) hn h1⟩, AllR_in a b s r h3.2 h2⟩
end
theorem AllR_app (s : List UInt8) : ∀ (p q : List PatT) (i j : Nat), AllR s (p ++ q) i j ↔ ∃ m, AllR s p i m ∧ AllR s q m j
  | [], q, i, j => ⟨fun h => ⟨i, rfl, h⟩, fun ⟨m, h1, h2⟩ => by cases h1; exact h2⟩
  | x :: p, q, i, j => by
    rw [List.cons_append, AllR_cons]
    constructor
    · rintro ⟨m, h1, h2⟩
      obtain ⟨k, h3, h4⟩ := (AllR_app s p q m j).1 h2
      exact ⟨k, (AllR_cons s x p i k).2 ⟨m, h1, h3⟩, h4⟩
    · rintro ⟨k, h1, h4⟩
      obtain ⟨m, h1, h3⟩ := (AllR_cons s x p i k).1 h1
      exact ⟨m, h1, (AllR_app s p q m j).2 ⟨k, h3, h4⟩⟩
/-- A match of the whole text. -/
def Whole (s : List UInt8) (l : List PatT) : Prop := AllR s l 0 s.length
theorem whole_app {s t : List UInt8} {p q : List PatT} (hp : Whole s p) (hq : Whole t q) : Whole (s ++ t) (p ++ q) := by
  unfold Whole at hp hq ⊢
  refine (AllR_app _ p q _ _).2 ⟨s.length, ?_, ?_⟩
  · have := AllR_in [] t s p (Nat.zero_le _) hp
    simpa using this
  · have := AllR_in s [] t q (Nat.zero_le _) hq
    simpa using this
theorem whole_alt {s : List UInt8} {p q : List PatT} {e1 e2 : ByteArray} (h1 : e1.data.toList = []) (h2 : e2.data.toList = []) : Whole s [.mk 1 1 e1 e2 [p, q]] ↔ Whole s p ∨ Whole s q := by
  have key : ∀ i j, OnceR s (.mk 1 1 e1 e2 [p, q]) i j ↔ AllR s p i j ∨ AllR s q i j := by
    intro i j
    unfold OnceR
    rw [if_neg (by rw [h1]; simp), if_neg (by rw [h2]; simp)]
    unfold AltR AltR AltR
    simp
  unfold Whole
  rw [AllR_cons]
  constructor
  · rintro ⟨m, ⟨k, ⟨h3, h4⟩, h5⟩, h6⟩
    have hk : k = 1 := by
      have h3' : (1 : Int) ≤ k := h3
      have h4' : (1 : Int) = -1 ∨ (k : Int) ≤ 1 := h4
      omega
    subst hk
    obtain ⟨m', e, h7⟩ := h5
    have e : 0 = m' := e
    subst e
    have h6 : m = s.length := h6
    subst h6
    exact (key _ _).1 h7
  · intro h
    exact ⟨s.length, ⟨1, ⟨by show (1 : Int) ≤ 1; omega, .inr (by show (1 : Int) ≤ 1; omega)⟩, ⟨0, rfl, (key _ _).2 h⟩⟩, rfl⟩
theorem whole_any {s : List UInt8} {c e2 : ByteArray} (hc : c.data.toList = [69]) : Whole s [.mk 0 (-1) c e2 []] := by
  unfold Whole
  rw [AllR_cons]
  refine ⟨s.length, ⟨s.length, ⟨by show (0 : Int) ≤ _; omega, .inl rfl⟩, ?_⟩, rfl⟩
  have : ∀ k, k ≤ s.length → Iter (OnceR s (.mk 0 (-1) c e2 [])) k 0 k := by
    intro k
    induction k with
    | zero => intro _; rfl
    | succ k ih =>
      intro hk
      refine ⟨k, ih (by omega), ?_⟩
      unfold OnceR
      left
      rw [if_pos (by rw [hc]; simp)]
      refine ⟨⟨s[k], List.getElem?_eq_getElem (by omega), ?_⟩, rfl⟩
      rw [hc]
      rfl
  exact this _ (Nat.le_refl _)
/-! Sets of places, as lists of truths. -/
def tr (bs : List Bool) (i : Nat) : Prop := bs[i]? = some true
noncomputable def setL (n : Nat) (P : Nat → Prop) : List Bool := (List.range (n + 1)).map fun j => holds (P j)
theorem setL_len (n : Nat) (P : Nat → Prop) : (setL n P).length = n + 1 := by unfold setL; simp
theorem holds_iff {p : Prop} : holds p = true ↔ p := ⟨holds_inv, holds_mk⟩
theorem tr_setL {n : Nat} {P : Nat → Prop} {j : Nat} : tr (setL n P) j ↔ j ≤ n ∧ P j := by
  unfold tr setL
  rw [List.getElem?_map]
  by_cases h : j < n + 1
  · rw [List.getElem?_range h]
    simp only [Option.map_some, Option.some.injEq, holds_iff]
    exact ⟨fun k => ⟨by omega, k⟩, fun k => k.2⟩
  · rw [List.getElem?_eq_none (by simp; omega)]
    simp
    omega
theorem tr_lt {bs : List Bool} {i : Nat} (h : tr bs i) : i < bs.length := (List.getElem?_eq_some_iff.1 h).1
theorem set_ext {a b : List Bool} (hl : a.length = b.length) (h : ∀ i, tr a i ↔ tr b i) : a = b := by
  apply List.ext_getElem hl
  intro i h1 h2
  have := h i
  unfold tr at this
  rw [List.getElem?_eq_getElem h1, List.getElem?_eq_getElem h2, Option.some.injEq, Option.some.injEq] at this
  rw [Bool.eq_iff_iff]
  exact this
theorem setL_congr {n : Nat} {P Q : Nat → Prop} (h : ∀ j, j ≤ n → (P j ↔ Q j)) : setL n P = setL n Q :=
  set_ext (by rw [setL_len, setL_len]) fun i => by
    rw [tr_setL, tr_setL]
    exact ⟨fun k => ⟨k.1, (h i k.1).1 k.2⟩, fun k => ⟨k.1, (h i k.1).2 k.2⟩⟩
/-- What is reached from a set. -/
noncomputable def imgL (n : Nat) (R : Nat → Nat → Prop) (bs : List Bool) : List Bool := setL n fun j => ∃ i, tr bs i ∧ R i j
theorem imgL_len (n : Nat) (R : Nat → Nat → Prop) (bs : List Bool) : (imgL n R bs).length = n + 1 := setL_len _ _
theorem tr_imgL {n : Nat} {R : Nat → Nat → Prop} {bs : List Bool} {j : Nat} : tr (imgL n R bs) j ↔ j ≤ n ∧ ∃ i, tr bs i ∧ R i j := tr_setL
theorem imgL_congr {n : Nat} {R R' : Nat → Nat → Prop} {bs : List Bool} (hb : bs.length = n + 1) (h : ∀ i j, i ≤ n → j ≤ n → (R i j ↔ R' i j)) : imgL n R bs = imgL n R' bs :=
  setL_congr fun j hj => ⟨fun ⟨i, h1, h2⟩ => ⟨i, h1, (h i j (by have := tr_lt h1; omega) hj).1 h2⟩, fun ⟨i, h1, h2⟩ => ⟨i, h1, (h i j (by have := tr_lt h1; omega) hj).2 h2⟩⟩
theorem imgL_comp {n : Nat} {R R' : Nat → Nat → Prop} {bs : List Bool} (hb : bs.length = n + 1) (hR : ∀ i j, i ≤ n → R i j → j ≤ n) : imgL n R' (imgL n R bs) = imgL n (fun i j => ∃ m, R i m ∧ R' m j) bs :=
  setL_congr fun j hj => ⟨fun ⟨m, h1, h2⟩ => by
    obtain ⟨_, i, h3, h4⟩ := tr_imgL.1 h1
    exact ⟨i, h3, m, h4, h2⟩, fun ⟨i, h1, m, h2, h3⟩ => ⟨m, tr_imgL.2 ⟨hR i m (by have := tr_lt h1; omega) h2, i, h1, h2⟩, h3⟩⟩
theorem imgL_id {n : Nat} {bs : List Bool} (hb : bs.length = n + 1) : imgL n (fun i j => i = j) bs = bs :=
  set_ext (by rw [imgL_len, hb]) fun j => by
    rw [tr_imgL]
    exact ⟨fun ⟨_, i, h1, h2⟩ => h2 ▸ h1, fun h => ⟨by have := tr_lt h; omega, j, h, rfl⟩⟩
/-- Two sets together. -/
def orL (a b : List Bool) : List Bool := List.zipWith (· || ·) a b
theorem orL_len {a b : List Bool} (h : a.length = b.length) : (orL a b).length = a.length := by unfold orL; rw [List.length_zipWith, h, Nat.min_self]
theorem tr_orL {a b : List Bool} (h : a.length = b.length) {i : Nat} : tr (orL a b) i ↔ tr a i ∨ tr b i := by
  unfold tr orL
  rw [List.getElem?_zipWith]
  by_cases hi : i < a.length
  · rw [List.getElem?_eq_getElem hi, List.getElem?_eq_getElem (by omega : i < b.length)]
    simp
  · rw [List.getElem?_eq_none (by omega), List.getElem?_eq_none (by omega : b.length ≤ i)]
    simp
theorem imgL_or {n : Nat} {R R' : Nat → Nat → Prop} {bs : List Bool} : orL (imgL n R bs) (imgL n R' bs) = imgL n (fun i j => R i j ∨ R' i j) bs :=
  set_ext (by rw [orL_len (by rw [imgL_len, imgL_len]), imgL_len, imgL_len]) fun j => by
    rw [tr_orL (by rw [imgL_len, imgL_len]), tr_imgL, tr_imgL, tr_imgL]
    constructor
    · rintro (⟨h, i, h1, h2⟩ | ⟨h, i, h1, h2⟩)
      · exact ⟨h, i, h1, .inl h2⟩
      · exact ⟨h, i, h1, .inr h2⟩
    · rintro ⟨h, i, h1, h2 | h2⟩
      · exact .inl ⟨h, i, h1, h2⟩
      · exact .inr ⟨h, i, h1, h2⟩
/-- Some place of b is not in a. -/
def moreB (a b : List Bool) : Bool := (List.zipWith (fun x y => y && !x) a b).any id
theorem moreB_false {a b : List Bool} (h : a.length = b.length) : moreB a b = false ↔ ∀ i, tr b i → tr a i := by
  unfold moreB
  rw [← Bool.not_eq_true, List.any_eq_true]
  constructor
  · intro hn i hi
    have hib := tr_lt hi
    unfold tr at hi ⊢
    rw [List.getElem?_eq_getElem hib, Option.some.injEq] at hi
    rw [List.getElem?_eq_getElem (by omega : i < a.length), Option.some.injEq]
    cases ha : a[i]'(by omega) with
    | true => rfl
    | false =>
      refine absurd ⟨true, List.mem_iff_getElem.2 ⟨i, by rw [List.length_zipWith]; omega, ?_⟩, rfl⟩ hn
      rw [List.getElem_zipWith, ha, hi]
      rfl
  · rintro hn ⟨x, hx, hid⟩
    obtain ⟨i, hi, rfl⟩ := List.mem_iff_getElem.1 hx
    rw [List.length_zipWith] at hi
    rw [List.getElem_zipWith, id, Bool.and_eq_true] at hid
    have := hn i (by unfold tr; rw [List.getElem?_eq_getElem (by omega), hid.1])
    unfold tr at this
    rw [List.getElem?_eq_getElem (by omega), Option.some.injEq] at this
    rw [this] at hid
    cases hid.2
/-- How many places there are. -/
def cntL (a : List Bool) : Nat := (a.filter id).length
theorem cntL_le (a : List Bool) : cntL a ≤ a.length := List.length_filter_le _ _
theorem cntL_or : ∀ {a b : List Bool}, a.length = b.length → cntL a ≤ cntL (orL a b) ∧ (moreB a b = true → cntL a < cntL (orL a b))
  | [], [], _ => ⟨Nat.le_refl _, fun h => by cases h⟩
  | [], _ :: _, h => by cases h
  | _ :: _, [], h => by cases h
  | x :: a, y :: b, h => by
    obtain ⟨h1, h2⟩ := cntL_or (a := a) (b := b) (by simpa using h)
    unfold cntL orL moreB at *
    cases x <;> cases y <;> simp at * <;> first | omega | (refine ⟨?_, fun k => ?_⟩ <;> first | omega | (have := h2 k; omega) | skip) | skip
    all_goals first | exact ⟨h1, fun x hx k => h2 x hx k⟩ | omega | skip
/-- As often as it goes. -/
def Upto (R : Nat → Nat → Prop) (lo k i j : Nat) : Prop := ∃ m, lo ≤ m ∧ m ≤ k ∧ Iter R m i j
theorem upto_all {R : Nat → Nat → Prop} {n lo k : Nat} {bs : List Bool} (hb : bs.length = n + 1) (hR : ∀ i j, i ≤ n → R i j → i ≤ j ∧ j ≤ n)
    (h : ∀ j, tr (imgL n (Iter R (k + 1)) bs) j → tr (imgL n (Upto R lo k) bs) j) (hk : lo ≤ k) : imgL n (Upto R lo k) bs = imgL n (fun i j => ∃ m, lo ≤ m ∧ Iter R m i j) bs := by
  have key : ∀ m i j, lo ≤ m → tr bs i → Iter R m i j → ∃ i', tr bs i' ∧ Upto R lo k i' j := by
    intro m
    induction m with
    | zero =>
      intro i j h1 h2 h3
      exact ⟨i, h2, 0, h1, Nat.zero_le _, h3⟩
    | succ m ih =>
      intro i j h1 h2 h3
      rcases Nat.lt_or_ge k (m + 1) with hkm | hkm
      · rcases Nat.lt_or_ge m lo with hml | hml
        · omega
        · obtain ⟨x, h4, h5⟩ := h3
          obtain ⟨i', h6, m', h7, h8, h9⟩ := ih i x hml h2 h4
          have hi' : i' ≤ n := by have := tr_lt h6; omega
          have hx := Iter_le hR h9 hi'
          rcases Nat.lt_or_ge m' k with hm' | hm'
          · exact ⟨i', h6, m' + 1, by omega, hm', x, h9, h5⟩
          · obtain rfl : m' = k := by omega
            have hj := hR x j hx.2 h5
            obtain ⟨_, i'', h10, h11⟩ := tr_imgL.1 (h j (tr_imgL.2 ⟨hj.2, i', h6, x, h9, h5⟩))
            exact ⟨i'', h10, h11⟩
      · exact ⟨i, h2, m + 1, h1, hkm, h3⟩
  refine setL_congr fun j hj => ⟨fun ⟨i, h1, m, h2, h3, h4⟩ => ⟨i, h1, m, h2, h4⟩, fun ⟨i, h1, m, h2, h3⟩ => key m i j h2 h1 h3⟩
end Go.Proofs.Ytdegegajoccdjaa
