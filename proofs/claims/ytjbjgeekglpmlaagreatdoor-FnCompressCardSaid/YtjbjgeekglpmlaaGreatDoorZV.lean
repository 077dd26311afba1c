/- Plain: the pieces of a text by a separator.
The encoding of subscripts: plain laws (order, and reading back).
The encoding of subscripts: what ReplaceAll makes.
The program's PutSubs: by hand.
The program's getString: by hand.
Results that are only read from now on: a contract's own lists turn into plain values, a nil list into an empty one.
Results that are only read from now on, also lists that were written in place: nobody holds them any more but the caller.
The program's reading of subscripts, by the reckoner: what is stated.
Trees (printed by vx/trees.sh; numbers of one seat).
The program's reading of subscripts, by the reckoner: proofs.
Keys: plain laws (order, common beginnings, reading back).
Keys, by the reckoner: what is stated.
Trees (printed by vx/trees.sh; numbers of one seat).
Keys, by the reckoner: proofs.
A law's arguments and the package variables, opened for the reckoner.
The walk of the law FnCompress, by the reckoner. -/
import Derived.Lib.Split
import Derived.Lib.Join
import Derived.Test.YtjbjgeekglpmlaaGreatDoorZA
import Derived.Lib.Replace
import Derived.Lib.CountLaws
import Derived.Test.YtjbjgeekglpmlaaGreatDoorNumTextI
import Derived.Test.YtjbjgeekglpmlaaGreatDoorSubS
import Derived.Test.YtjbjgeekglpmlaaGreatDoorWByte
import Derived.Test.YtjbjgeekglpmlaaGreatDoorVxC
import Derived.Deep.RegionWith
import Derived.Test.YtjbjgeekglpmlaaGreatDoorVx3
import Derived.Test.YtjbjgeekglpmlaaGreatDoorZB
import Derived.Test.YtjbjgeekglpmlaaGreatDoorZX
import Derived.Lib.IndexMore
import Derived.Test.YtjbjgeekglpmlaaGreatDoorZC
import Derived.Test.YtjbjgeekglpmlaaGreatDoorCutS
import Derived.ChangeSlices
import Derived.WideShapes
import Derived.OpenShut
namespace Go.Proofs.YtjbjgeekglpmlaaGreatDoor
section
set_option linter.unusedVariables false

theorem index_occ {s sub : List UInt8} : ∀ {i : Nat}, Lib.index s sub = (i : Int) → Lib.occAt s sub i = true ∧ i ≤ s.length := by
  induction s with
  | nil =>
    intro i h
    unfold Lib.index at h
    split at h
    · rename_i hs
      have : i = 0 := by omega
      subst this
      exact ⟨by unfold Lib.occAt; cases sub <;> simp_all, by simp⟩
    · omega
  | cons b l ih =>
    intro i h
    unfold Lib.index at h
    split at h
    · rename_i hs
      have : i = 0 := by omega
      subst this
      exact ⟨by unfold Lib.occAt; simpa using hs, by simp⟩
    · split at h
      · omega
      · rename_i h2
        have hge := Lib.index_ge l sub
        have hne : Lib.index l sub ≠ -1 := fun e => h2 (by rw [e]; rfl)
        obtain ⟨j, hj⟩ : ∃ j : Nat, Lib.index l sub = (j : Int) := ⟨(Lib.index l sub).toNat, by omega⟩
        have : i = j + 1 := by omega
        subst this
        obtain ⟨h3, h4⟩ := ih hj
        refine ⟨?_, by simp; omega⟩
        unfold Lib.occAt at h3 ⊢
        simpa using h3
theorem occ_take {s sub : List UInt8} {i : Nat} (h : Lib.occAt s sub i = true) : s.take i ++ (sub ++ s.drop (i + sub.length)) = s := by
  unfold Lib.occAt at h
  have hp := List.isPrefixOf_iff_prefix.1 h
  obtain ⟨t, ht⟩ := hp
  have h2 : s.drop (i + sub.length) = t := by
    rw [← List.drop_drop, ← ht, List.drop_left]
  rw [h2, ht, List.take_append_drop]
theorem index_none_of {s sub : List UInt8} (h : ∀ j, Lib.occAt s sub j = false) : Lib.index s sub = -1 := by
  have hge := Lib.index_ge s sub
  by_cases hn : Lib.index s sub = -1
  · exact hn
  · obtain ⟨j, hj⟩ : ∃ j : Nat, Lib.index s sub = (j : Int) := ⟨(Lib.index s sub).toNat, by omega⟩
    have := (index_occ hj).1
    rw [h j] at this
    cases this
/-- No place ahead of the first one. -/
theorem index_first_min {s sub : List UInt8} : ∀ {i : Nat}, Lib.index s sub = (i : Int) → ∀ j, j < i → Lib.occAt s sub j = false := by
  induction s with
  | nil =>
    intro i h j hj
    unfold Lib.index at h
    split at h <;> omega
  | cons b l ih =>
    intro i h j hj
    unfold Lib.index at h
    split at h
    · omega
    · rename_i hs
      split at h
      · omega
      · rename_i h2
        have hge := Lib.index_ge l sub
        have hne : Lib.index l sub ≠ -1 := fun e => h2 (by rw [e]; rfl)
        obtain ⟨m, hm⟩ : ∃ m : Nat, Lib.index l sub = (m : Int) := ⟨(Lib.index l sub).toNat, by omega⟩
        cases j with
        | zero => unfold Lib.occAt; rw [List.drop_zero]; exact Bool.eq_false_iff.2 hs
        | succ j =>
          have := ih hm j (by omega)
          unfold Lib.occAt at this ⊢
          simpa using this
/-- What stands ahead of the first place holds none. -/
theorem index_take {s sub : List UInt8} {i : Nat} (hsub : sub ≠ []) (h : Lib.index s sub = (i : Int)) : Lib.index (s.take i) sub = -1 := by
  apply index_none_of
  intro j
  cases hj : Lib.occAt (s.take i) sub j with
  | false => rfl
  | true =>
    unfold Lib.occAt at hj
    obtain ⟨t, ht⟩ := List.isPrefixOf_iff_prefix.1 hj
    have hl := congrArg List.length ht
    rw [List.length_append, List.length_drop, List.length_take] at hl
    have hpos : 0 < sub.length := List.length_pos_iff.2 hsub
    have hji : j < i := by omega
    have := index_first_min h j hji
    unfold Lib.occAt at this
    have h2 : sub.isPrefixOf (s.drop j) = true := by
      apply List.isPrefixOf_iff_prefix.2
      have h3 : (s.take i).drop j <+: s.drop j := by
        rw [List.drop_take]; exact List.take_prefix _ _
      exact List.IsPrefix.trans ⟨t, ht⟩ h3
    rw [h2] at this
    cases this
theorem splitK_ne (sep : List UInt8) (save k : Nat) (s : List UInt8) : Lib.splitK sep save k s ≠ [] := by
  cases k with
  | zero => simp [Lib.splitK]
  | succ k => unfold Lib.splitK; split <;> simp
theorem join_cons2 (x : List UInt8) (l : List (List UInt8)) (sep : List UInt8) (h : l ≠ []) : Lib.join (x :: l) sep = x ++ (sep ++ Lib.join l sep) := by
  cases l with
  | nil => exact absurd rfl h
  | cons y l => unfold Lib.join; rw [List.intercalate_cons_cons]; simp
theorem join_one (x sep : List UInt8) : Lib.join [x] sep = x := by unfold Lib.join; simp
/-- The pieces joined are the text; none holds the separator. -/
theorem split_law (sep : List UInt8) (hsep : sep ≠ []) : ∀ (k : Nat) (s : List UInt8), k = Lib.count s sep → Lib.join (Lib.splitK sep 0 k s) sep = s ∧ (∀ p ∈ Lib.splitK sep 0 k s, Lib.index p sep = -1) ∧ (Lib.splitK sep 0 k s).length = k + 1
  | 0, s, hk => by
    have hm : Lib.index s sep = -1 := by
      have hge := Lib.index_ge s sep
      by_cases h : Lib.index s sep = -1
      · exact h
      · have h2 := Lib.count_hit (s := s) (i := (Lib.index s sep).toNat) hsep (by omega)
        omega
    refine ⟨join_one _ _, ?_, rfl⟩
    intro p hp
    have : p = s := by simpa [Lib.splitK] using hp
    rw [this]; exact hm
  | k + 1, s, hk => by
    have hge := Lib.index_ge s sep
    have hne : Lib.index s sep ≠ -1 := fun e => by
      have := Lib.count_miss e
      omega
    obtain ⟨i, hi⟩ : ∃ i : Nat, Lib.index s sep = (i : Int) := ⟨(Lib.index s sep).toNat, by omega⟩
    have hc := Lib.count_hit hsep hi
    have ih := split_law sep hsep k (s.drop (i + sep.length)) (by omega)
    have hnb : ¬ (Lib.index s sep == -1) = true := fun e => hne (beq_iff_eq.1 e)
    have e0 : Lib.splitK sep 0 (k + 1) s = s.take i :: Lib.splitK sep 0 k (s.drop (i + sep.length)) := by
      conv => lhs; unfold Lib.splitK
      rw [if_neg hnb, hi]
      simp
    rw [e0]
    refine ⟨?_, ?_, ?_⟩
    · rw [join_cons2 _ _ _ (splitK_ne _ _ _ _), ih.1]
      exact occ_take (index_occ hi).1
    · intro p hp
      rcases List.mem_cons.1 hp with rfl | hp
      · exact index_take hsep hi
      · exact ih.2.1 p hp
    · rw [List.length_cons, ih.2.2]
theorem count_index (s sep : List UInt8) (hsep : sep ≠ []) : (0 ≤ Lib.index s sep) ↔ 1 ≤ Lib.count s sep := by
  have hge := Lib.index_ge s sep
  constructor
  · intro h
    obtain ⟨i, hi⟩ : ∃ i : Nat, Lib.index s sep = (i : Int) := ⟨(Lib.index s sep).toNat, by omega⟩
    have := Lib.count_hit hsep hi
    omega
  · intro h
    by_cases hm : Lib.index s sep = -1
    · have := Lib.count_miss hm; omega
    · omega
end

section
open Go.RowKit
set_option linter.unusedVariables false
set_option linter.unusedSimpArgs false

/-- The last k bytes of a number, the high ones first. -/
def beK : Nat → Nat → List UInt8
  | 0, _ => []
  | k + 1, n => UInt8.ofNat (n / 256 ^ k % 256) :: beK k n
theorem beK_len : ∀ (k n : Nat), (beK k n).length = k
  | 0, _ => rfl
  | k + 1, n => by unfold beK; rw [List.length_cons, beK_len k n]
theorem beK_mod : ∀ (k n : Nat), beK k (n % 256 ^ k) = beK k n := by
  have key : ∀ (j k n : Nat), j ≤ k → beK j (n % 256 ^ k) = beK j n := by
    intro j
    induction j with
    | zero => intro k n _; rfl
    | succ j ih =>
      intro k n h
      unfold beK
      rw [ih k n (by omega)]
      congr 2
      have e : 256 ^ k = 256 ^ j * 256 * 256 ^ (k - (j + 1)) := by rw [← Nat.pow_succ, ← Nat.pow_add]; congr 1; omega
      rw [e, Nat.mul_assoc, Nat.mod_mul_right_div_self, Nat.mod_mul_right_mod]
  exact fun k n => key k k n (Nat.le_refl _)
theorem byteLt_cons (a b : UInt8) (l m : List UInt8) : byteLt (a :: l) (b :: m) = if a = b then byteLt l m else decide (a.toNat < b.toNat) := rfl
theorem byteLt_same (c : UInt8) (x y : List UInt8) : byteLt (c :: x) (c :: y) = byteLt x y := by rw [byteLt_cons, if_pos rfl]
theorem beK_lt : ∀ (k m n : Nat) (r r' : List UInt8), m < 256 ^ k → n < 256 ^ k → byteLt (beK k m ++ r) (beK k n ++ r') = if m = n then byteLt r r' else decide (m < n)
  | 0, m, n, r, r', hm, hn => by
    obtain rfl : m = 0 := by simpa using hm
    obtain rfl : n = 0 := by simpa using hn
    rw [if_pos rfl]
    rfl
  | k + 1, m, n, r, r', hm, hn => by
    have hp : 0 < 256 ^ k := Nat.pow_pos (by decide)
    have h1 : m / 256 ^ k < 256 := Nat.div_lt_of_lt_mul (by rw [← Nat.pow_succ]; exact hm)
    have h2 : n / 256 ^ k < 256 := Nat.div_lt_of_lt_mul (by rw [← Nat.pow_succ]; exact hn)
    have d1 := Nat.div_add_mod m (256 ^ k)
    have d2 := Nat.div_add_mod n (256 ^ k)
    have l1 := Nat.mod_lt m hp
    have l2 := Nat.mod_lt n hp
    have ih := beK_lt k (m % 256 ^ k) (n % 256 ^ k) r r' l1 l2
    rw [beK_mod, beK_mod] at ih
    unfold beK
    rw [Nat.mod_eq_of_lt h1, Nat.mod_eq_of_lt h2]
    rw [List.cons_append, List.cons_append, byteLt_cons]
    have hq : (UInt8.ofNat (m / 256 ^ k) = UInt8.ofNat (n / 256 ^ k)) ↔ m / 256 ^ k = n / 256 ^ k := by
      constructor
      · intro e
        have := congrArg UInt8.toNat e
        rw [UInt8.toNat_ofNat_of_lt' (by simpa using h1), UInt8.toNat_ofNat_of_lt' (by simpa using h2)] at this
        exact this
      · intro e; rw [e]
    by_cases he : m / 256 ^ k = n / 256 ^ k
    · rw [if_pos (hq.2 he), ih]
      rw [he] at d1
      by_cases hmn : m % 256 ^ k = n % 256 ^ k
      · rw [if_pos hmn, if_pos (by omega)]
      · rw [if_neg hmn, if_neg (by omega), decide_eq_decide]
        omega
    · rw [if_neg (fun e => he (hq.1 e)), UInt8.toNat_ofNat_of_lt' (by simpa using h1), UInt8.toNat_ofNat_of_lt' (by simpa using h2), if_neg (fun e => he (by rw [e])), decide_eq_decide]
      constructor
      · intro h
        exact Nat.lt_of_div_lt_div h
      · intro h
        rcases Nat.lt_or_ge (m / 256 ^ k) (n / 256 ^ k) with h' | h'
        · exact h'
        · have := Nat.div_le_div_right (c := 256 ^ k) (Nat.le_of_lt h)
          omega
/-- A text, its zero bytes told apart from its end. -/
def escS : List UInt8 → List UInt8
  | [] => []
  | c :: s => if c = 0 then 0 :: 255 :: escS s else c :: escS s
theorem escS_lt : ∀ (s t r r' : List UInt8), byteLt (escS s ++ 0 :: 0 :: r) (escS t ++ 0 :: 0 :: r') = if s = t then byteLt r r' else byteLt s t
  | [], [], r, r' => by
    rw [if_pos rfl]
    show byteLt (0 :: 0 :: r) (0 :: 0 :: r') = _
    rw [byteLt_same, byteLt_same]
  | [], d :: t, r, r' => by
    rw [if_neg (by simp)]
    unfold escS
    by_cases hd : d = 0
    · rw [if_pos hd]
      rfl
    · rw [if_neg hd]
      show byteLt (0 :: 0 :: r) (d :: (escS t ++ 0 :: 0 :: r')) = true
      unfold byteLt
      rw [if_neg (fun e => hd e.symm)]
      exact decide_eq_true (by
        have : d.toNat ≠ 0 := fun e => hd (UInt8.toNat_inj.1 e)
        show 0 < d.toNat
        omega)
  | c :: s, [], r, r' => by
    rw [if_neg (by simp)]
    unfold escS
    by_cases hc : c = 0
    · rw [if_pos hc]
      rfl
    · rw [if_neg hc]
      show byteLt (c :: (escS s ++ 0 :: 0 :: r)) (0 :: 0 :: r') = false
      unfold byteLt
      rw [if_neg hc]
      exact decide_eq_false (by show ¬ c.toNat < 0; omega)
  | c :: s, d :: t, r, r' => by
    have ih := escS_lt s t r r'
    unfold escS
    by_cases hcd : c = d
    · subst hcd
      have e : (if (c :: s) = (c :: t) then byteLt r r' else byteLt (c :: s) (c :: t)) = if s = t then byteLt r r' else byteLt s t := by
        by_cases hst : s = t
        · rw [if_pos hst, if_pos (by rw [hst])]
        · rw [if_neg hst, if_neg (fun e => hst (by injection e))]
          conv => lhs; unfold byteLt
          rw [if_pos rfl]
      rw [e, ← ih]
      by_cases hc : c = 0
      · rw [if_pos hc, if_pos hc]
        show byteLt (0 :: 255 :: (escS s ++ 0 :: 0 :: r)) (0 :: 255 :: (escS t ++ 0 :: 0 :: r')) = _
        conv => lhs; unfold byteLt
        rw [if_pos rfl]
        conv => lhs; unfold byteLt
        rw [if_pos rfl]
      · rw [if_neg hc, if_neg hc]
        show byteLt (c :: (escS s ++ 0 :: 0 :: r)) (c :: (escS t ++ 0 :: 0 :: r')) = _
        conv => lhs; unfold byteLt
        rw [if_pos rfl]
    · rw [if_neg (show ¬ (c :: s) = (d :: t) from fun e => hcd (by injection e))]
      have e : ∀ x y : List UInt8, byteLt (c :: x) (d :: y) = decide (c.toNat < d.toNat) := fun x y => by
        unfold byteLt
        rw [if_neg hcd]
      rw [e s t]
      by_cases hc : c = 0
      · have hd : d ≠ 0 := fun h => hcd (hc.trans h.symm)
        rw [if_pos hc, if_neg hd]
        rw [hc] at e ⊢
        exact e _ _
      · by_cases hd : d = 0
        · rw [if_neg hc, if_pos hd]
          rw [hd] at e ⊢
          exact e _ _
        · rw [if_neg hc, if_neg hd]
          exact e _ _
def encS (s : List UInt8) : List UInt8 := if canonB s = true then 1 :: beK 8 (numOf s + 1000000000000000000).toNat else 2 :: (escS s ++ [0, 0])
theorem encS_lt (a b r r' : List UInt8) : byteLt (encS a ++ r) (encS b ++ r') = if a = b then byteLt r r' else beforeB a b := by
  have ra := numOf_range a
  have rb := numOf_range b
  have big : (256 : Nat) ^ 8 = 18446744073709551616 := by decide
  unfold encS beforeB
  by_cases ha : canonB a = true <;> by_cases hb : canonB b = true
  · rw [if_pos ha, if_pos hb, if_pos ha, if_pos hb]
    show byteLt (1 :: (beK 8 _ ++ r)) (1 :: (beK 8 _ ++ r')) = _
    conv => lhs; unfold byteLt
    rw [if_pos rfl, beK_lt 8 _ _ r r' (by rw [big]; omega) (by rw [big]; omega)]
    by_cases hab : a = b
    · rw [if_pos hab, if_pos (by rw [hab])]
    · have hne : numOf a ≠ numOf b := fun e => hab (canon_inj ha hb e)
      rw [if_neg hab, if_neg (by omega), decide_eq_decide]
      omega
  · have hab : a ≠ b := fun e => hb (e ▸ ha)
    rw [if_pos ha, if_neg hb, if_pos ha, if_neg hb, if_neg hab]
    rfl
  · have hab : a ≠ b := fun e => ha (e ▸ hb)
    rw [if_neg ha, if_pos hb, if_neg ha, if_pos hb, if_neg hab]
    rfl
  · rw [if_neg ha, if_neg hb, if_neg ha, if_neg hb]
    have e : ∀ (x y : List UInt8), (2 :: (escS x ++ [0, 0])) ++ y = 2 :: (escS x ++ 0 :: 0 :: y) := fun x y => by simp
    rw [e, e]
    conv => lhs; unfold byteLt
    rw [if_pos rfl]
    exact escS_lt a b r r'
def encL : List ByteArray → List UInt8
  | [] => []
  | s :: xs => encS s.data.toList ++ encL xs
theorem encS_ne (s r : List UInt8) : ∃ c t, encS s ++ r = c :: t := by
  unfold encS
  split <;> exact ⟨_, _, rfl⟩
/-- The encodings are in the order of the lists. -/
theorem encL_lt : ∀ xs ys : List ByteArray, byteLt (encL xs) (encL ys) = subsLt xs ys
  | [], [] => rfl
  | [], y :: ys => by
    unfold encL
    obtain ⟨c, t, h⟩ := encS_ne y.data.toList (encL ys)
    rw [h]
    rfl
  | x :: xs, [] => by
    unfold encL
    obtain ⟨c, t, h⟩ := encS_ne x.data.toList (encL xs)
    rw [h]
    rfl
  | x :: xs, y :: ys => by
    unfold encL subsLt
    rw [encS_lt]
    by_cases h : x = y
    · subst h
      rw [if_pos rfl, if_pos (sEq_self x)]
      exact encL_lt xs ys
    · have hne : x.data.toList ≠ y.data.toList := fun e => h (ByteArray.ext (Array.ext' e))
      rw [if_neg hne, if_neg (fun e => h (sEq_iff.1 e))]
theorem byteLt_ne {a b : List UInt8} (h : byteLt a b = true) : a ≠ b := fun e => by rw [e, byteLt_irrefl] at h; cases h
end

section
open Go.RowKit
set_option linter.unusedVariables false
set_option linter.unusedSimpArgs false

theorem escS_append (a b : List UInt8) : escS (a ++ b) = escS a ++ escS b := by
  induction a with
  | nil => rfl
  | cons c a ih =>
    show (if c = 0 then 0 :: 255 :: escS (a ++ b) else c :: escS (a ++ b)) = (if c = 0 then 0 :: 255 :: escS a else c :: escS a) ++ escS b
    by_cases h : c = 0
    · rw [if_pos h, if_pos h, ih]; rfl
    · rw [if_neg h, if_neg h, ih]; rfl
theorem escS_none {a : List UInt8} (h : ∀ c ∈ a, c ≠ 0) : escS a = a := by
  induction a with
  | nil => rfl
  | cons c a ih =>
    show (if c = 0 then _ else c :: escS a) = _
    rw [if_neg (h c (by simp)), ih (fun x hx => h x (List.mem_cons_of_mem _ hx))]
theorem index_none_mem0 {s : List UInt8} (h : Lib.index s [0] = -1) : ∀ c ∈ s, c ≠ 0 := by
  induction s with
  | nil => intro c hc; cases hc
  | cons b l ih =>
    unfold Lib.index at h
    split at h
    · omega
    · rename_i hp
      have hge := Lib.index_ge l [0]
      have hl : Lib.index l [0] = -1 := by
        split at h
        · rename_i h2; exact beq_iff_eq.1 h2
        · omega
      intro c hc
      rcases List.mem_cons.1 hc with rfl | hc
      · intro e
        subst e
        exact hp (by simp [List.isPrefixOf])
      · exact ih hl c hc
theorem replaceK_esc : ∀ (k : Nat) (s : List UInt8), k = Lib.count s [0] → Lib.replaceK [0] [0, 255] k s = escS s
  | 0, s, hk => by
    have hm : Lib.index s [0] = -1 := by
      have hge := Lib.index_ge s [0]
      by_cases h : Lib.index s [0] = -1
      · exact h
      · have h2 := Lib.count_hit (s := s) (sub := [0]) (i := (Lib.index s [0]).toNat) (by simp) (by omega)
        omega
    exact (escS_none (index_none_mem0 hm)).symm
  | k + 1, s, hk => by
    have hge := Lib.index_ge s [0]
    have hne : Lib.index s [0] ≠ -1 := fun e => by
      have := Lib.count_miss e
      omega
    obtain ⟨i, hi⟩ : ∃ i : Nat, Lib.index s [0] = (i : Int) := ⟨(Lib.index s [0]).toNat, by omega⟩
    have hc := Lib.count_hit (s := s) (sub := [0]) (by simp) hi
    have ih := replaceK_esc k (s.drop (i + 1)) (by have : ([0] : List UInt8).length = 1 := rfl; rw [this] at hc; omega)
    rw [Lib.replaceK_hit _ _ _ _ i hi]
    have hs := occ_take (index_occ hi).1
    have h1 : escS (s.take i) = s.take i := escS_none (index_none_mem0 (index_take (by simp) hi))
    conv => rhs; rw [← hs]
    rw [escS_append, h1]
    show s.take i ++ [0, 255] ++ Lib.replaceK [0] [0, 255] k (s.drop (i + 1)) = s.take i ++ escS (0 :: s.drop (i + 1))
    rw [ih, List.append_assoc]
    rfl
theorem replaceAll_esc (s : List UInt8) : Lib.replaceAll s [0] [0, 255] = escS s := by
  unfold Lib.replaceAll Lib.replace
  rw [if_neg (by decide)]
  unfold Lib.replaceNum
  rw [if_pos (by left; decide)]
  exact replaceK_esc _ s rfl
theorem escS_len : ∀ s : List UInt8, (escS s).length ≤ 2 * s.length
  | [] => by simp [escS]
  | c :: s => by
    have := escS_len s
    unfold escS
    split <;> simp <;> omega
end

section
open Go.RowKit Go.Shelf
set_option linter.unusedVariables false

theorem bytes_snocW (l : List UInt8) (c : UInt8) : Lib.byteCells l ++ [.int .u8 (c.toNat : Int)] = Lib.byteCells (l ++ [c]) := by simp [Lib.byteCells]
theorem bytes_appW (l m : List UInt8) : Lib.byteCells l ++ Lib.byteCells m = Lib.byteCells (l ++ m) := by simp [Lib.byteCells]
theorem bytes_lenW (l : List UInt8) : (Lib.byteCells l).length = l.length := by simp [Lib.byteCells]
theorem isBld_below {T e : TypeId} {B b : Nat} {bs : List Value} {w w' : World} (h : Lib.IsBuilder T e B b bs w) (hb : Below w.heap.size w w') : Lib.IsBuilder T e B b bs w' := by
  have key : ∀ p, Lib.BuilderAt T e B b p bs w → Lib.BuilderAt T e B b p bs w' := by
    rintro p ⟨hB, v, h1, h2, h3⟩
    have hlt : b < w.heap.size := (Array.getElem?_eq_some_iff.1 h1).1
    refine ⟨hB, v, (hb.block b hlt).trans h1, ⟨h2.1, ?_⟩, h3⟩
    rcases h2.2 with k | ⟨g, cap, cur, rfl, k1, k2, k3⟩
    · exact .inl k
    · exact .inr ⟨g, cap, cur, rfl, k1, (hb.block g (Array.getElem?_eq_some_iff.1 k2).1).trans k2, k3⟩
  rcases h with h | h
  · exact .inl (key _ h)
  · exact .inr (key _ h)
def MaxLW (w : World) : Prop := ∃ m : Int, w.cell? ⟨0, 0, none⟩ = some (.int .i64 m)
theorem MaxLW.below {w w' : World} (h : MaxLW w) (hb : Below w.heap.size w w') : MaxLW w' := by
  obtain ⟨m, hm⟩ := h
  exact ⟨m, (hb.cell (World.block_lt_of_cell? w _ hm)).trans hm⟩
abbrev BldIs (w0 : World) (b : Nat) (l : List UInt8) (w : World) : Prop := Lib.IsBuilder 89 5 w0.heap.size b (Lib.byteCells l) w

theorem beK_get (n : Nat) : ∀ j, j < 8 → (beK 8 n).take (j + 1) = (beK 8 n).take j ++ [UInt8.ofNat (n / 256 ^ (7 - j) % 256)]
  | 0, _ => rfl
  | 1, _ => rfl
  | 2, _ => rfl
  | 3, _ => rfl
  | 4, _ => rfl
  | 5, _ => rfl
  | 6, _ => rfl
  | 7, _ => rfl
  | j + 8, h => absurd h (by omega)
theorem pow_shift : ∀ j, j < 8 → 2 ^ (56 - 8 * j) = 256 ^ (7 - j)
  | 0, _ => rfl
  | 1, _ => rfl
  | 2, _ => rfl
  | 3, _ => rfl
  | 4, _ => rfl
  | 5, _ => rfl
  | 6, _ => rfl
  | 7, _ => rfl
  | j + 8, h => absurd h (by omega)
set_option maxHeartbeats 4000000 in
set_option maxRecDepth 100000 in
theorem putSub_any (w0 : World) (b : Nat) (acc : List UInt8) (s : ByteArray) (w : World) (hb0 : Below w0.heap.size w0 w) (hI : BldIs w0 b acc w) (hs : s.size ≤ 1000) (hacc : acc.length ≤ 1000000) (ht : Tab w0) (hm : MaxLW w0) :
    Calls Tryz.prog 67 #[.pointer (some ⟨b, 0, none⟩), .string s] w fun e w' => e = .returned (.tuple #[]) ∧ BldIs w0 b (acc ++ encS s.data.toList) w' ∧ Below w0.heap.size w0 w' := by
  have hIs := IsCanon_any s w (by omega) (ht.below hb0)
  cases hc : canonB s.data.toList with
  | true =>
    rw [hc] at hIs
    obtain ⟨n, hn⟩ : ∃ n : Nat, numOf s.data.toList + 1000000000000000000 = (n : Int) := ⟨(numOf s.data.toList + 1000000000000000000).toNat, by have := numOf_range s.data.toList; omega⟩
    have hrange := numOf_range s.data.toList
    have henc : encS s.data.toList = 1 :: beK 8 n := by unfold encS; rw [if_pos hc, hn]; rfl
    rw [henc]
    clear henc hc
    go_enter Tryz.func67, Tryz.ntmps67
    go_wp2_with fail
    refine hIs.mono ?_
    rintro e w1 ⟨rfl, hb1⟩
    have I1 := isBld_below hI hb1
    have hb01 := hb0.trans (hb1.mono hb0.size)
    clear hIs hI
    go_wp2_with fail
    refine (NumOf_any s w1 (by omega)).mono ?_
    rintro e w2 ⟨k, hk, rfl, hb2⟩
    have I2 := isBld_below I1 hb2
    have hb02 := hb01.trans (hb2.mono hb01.size)
    clear I1 hb1 hb2
    have hw : IntKind.i64.wrap (k + 1000000000000000000) = (n : Int) := by rw [IntKind.wrap_i64]; omega
    have hu : IntKind.u64.wrap (n : Int) = (n : Int) := Go.IntWalk.u64_in _ ⟨by omega, by omega⟩
    have hn2 : n ≤ 1999999999999999999 := by omega
    clear hk hn hrange
    go_wp2_with fail
    refine (Tryz.Builder_WriteByte w0.heap.size b (Lib.byteCells acc) 1 w2 I2 (by rw [bytes_lenW]; omega) (by have := hb02.size; omega)).mono ?_
    rintro e w3 ⟨rfl, hA, hb3⟩
    have I3 : BldIs w0 b (acc ++ [1]) w3 := by unfold BldIs; rw [← bytes_snocW]; exact .inr hA
    have hb03 := hb02.trans hb3
    clear I2 hA hb3
    go_wp2_with fail
    go_loopw [5] (fun i wr => ∃ j : Nat, j ≤ 8 ∧ i = .int .i64 (56 - 8 * (j : Int)) ∧ BldIs w0 b (acc ++ [1] ++ (beK 8 n).take j) wr ∧ Below w0.heap.size w0 wr) (fun i _ => (intOf i + 8).toNat)
    case atStart => exact ⟨0, by omega, rfl, by simpa using I3, hb03⟩
    case round =>
      obtain ⟨j, hj, rfl, hI, hbr⟩ := hrel
      have HI := Lib.hid hI
      clear hI I3 hb03
      by_cases hlt : j < 8
      · obtain ⟨c, hcc⟩ : ∃ c : UInt8, c = UInt8.ofNat (n / 256 ^ (7 - j) % 256) := ⟨_, rfl⟩
        have hcv : ((n : Int) / 2 ^ (56 - 8 * j) % 256 : Int) = (c.toNat : Int) := by
          have e2 : c.toNat = n / 256 ^ (7 - j) % 256 := by rw [hcc, UInt8.toNat_ofNat_of_lt' (by simpa using Nat.mod_lt (n / 256 ^ (7 - j)) (by decide))]
          rw [e2, ← pow_shift j hlt]
          norm_cast
        have htk := beK_get n j hlt
        rw [← hcc] at htk
        have hlen : ((beK 8 n).take j).length ≤ 8 := by rw [List.length_take, beK_len]; omega
        clear hcc
        go_wp2_with fail
        rw [hcv]
        refine (Tryz.Builder_WriteByte w0.heap.size b (Lib.byteCells (acc ++ [1] ++ (beK 8 n).take j)) c.toNat wr HI.out (by rw [bytes_lenW, List.length_append, List.length_append, List.length_singleton]; omega) (by have := hbr.size; omega)).mono ?_
        rintro e w4 ⟨rfl, hA, hb4⟩
        have I4 : BldIs w0 b (acc ++ [1] ++ (beK 8 n).take (j + 1)) w4 := by unfold BldIs; rw [htk, ← List.append_assoc, ← bytes_snocW]; exact .inr hA
        have hb04 := hbr.trans hb4
        clear hA hb4 htk hcv
        go_wp2_with fail
        go_roundw
        case rel => exact ⟨j + 1, by omega, by go_num, I4, hb04⟩
        case measure => simp [intOf]; omega
      · obtain rfl : j = 8 := by omega
        have I9 : BldIs w0 b (acc ++ 1 :: beK 8 n) wr := by
          have := HI.out
          rw [List.take_of_length_le (by rw [beK_len]; exact Nat.le_refl _), List.append_assoc] at this
          exact this
        clear HI
        go_wp2_with fail
        refine bodyPost_ret (results_none rfl _ _ _) rfl ?_
        exact ⟨rfl, I9, hbr⟩
  | false =>
    rw [hc] at hIs
    have henc : encS s.data.toList = 2 :: (escS s.data.toList ++ [0, 0]) := by unfold encS; rw [if_neg (by rw [hc]; decide)]
    rw [henc]
    obtain ⟨m, hm⟩ := hm
    have hlen : s.size + Lib.countB s ⟨#[0]⟩ * (⟨#[0, 255]⟩ : ByteArray).size ≤ 140737488355328 := by
      have h1 := Lib.countB_le ⟨#[0]⟩ (by decide) s.size s (Nat.le_refl _)
      have h2 : (⟨#[0, 255]⟩ : ByteArray).size = 2 := rfl
      rw [h2]
      omega
    have hesl := escS_len s.data.toList
    have hsl : s.data.toList.length = s.size := (size_len s).symm
    clear henc hc
    go_enter Tryz.func67, Tryz.ntmps67
    go_wp2_with fail
    refine hIs.mono ?_
    rintro e w1 ⟨rfl, hb1⟩
    have I1 := isBld_below hI hb1
    have hb01 := hb0.trans (hb1.mono hb0.size)
    clear hIs hI
    go_wp2_with fail
    refine (Tryz.Builder_WriteByte w0.heap.size b (Lib.byteCells acc) 2 w1 I1 (by rw [bytes_lenW]; omega) (by have := hb01.size; omega)).mono ?_
    rintro e w3 ⟨rfl, hA, hb3⟩
    have I3 : BldIs w0 b (acc ++ [2]) w3 := by unfold BldIs; rw [← bytes_snocW]; exact .inr hA
    have hb03 := hb01.trans hb3
    clear I1 hA hb3
    go_wp2_with fail
    refine ((Tryz.strings_ReplaceAll s ⟨#[0]⟩ ⟨#[0, 255]⟩ m w3 (by omega) ((hb03.cell (World.block_lt_of_cell? w0 _ hm)).trans hm) (by decide) hlen).mono (fun e w' h => StrPost.of h.1 h.2)).mono ?_
    rintro e w4 ⟨r, hr, rfl, hb4⟩
    have I4 := isBld_below I3 hb4
    have hb04 := hb03.trans (hb4.mono hb03.size)
    have hr' : r.data.toList = escS s.data.toList := hr.trans (replaceAll_esc s.data.toList)
    have hrs : r.size ≤ 2000 := by rw [size_len, hr']; omega
    clear I3 hr hb4
    go_wp2_with fail
    refine (Tryz.Builder_WriteString w0.heap.size b (Lib.byteCells (acc ++ [2])) r w4 I4 (by rw [bytes_lenW, List.length_append, List.length_singleton]; omega) (by have := hb04.size; omega)).mono ?_
    rintro e w5 ⟨rfl, hA, hb5⟩
    have I5 : BldIs w0 b (acc ++ [2] ++ escS s.data.toList) w5 := by unfold BldIs; rw [← bytes_appW, ← hr']; exact .inr hA
    have hb05 := hb04.trans hb5
    clear I4 hA hb5
    go_wp2_with fail
    refine (Tryz.Builder_WriteString w0.heap.size b (Lib.byteCells (acc ++ [2] ++ escS s.data.toList)) ⟨#[0, 0]⟩ w5 I5 (by rw [bytes_lenW, List.length_append, List.length_append, List.length_singleton]; have : (⟨#[0, 0]⟩ : ByteArray).size = 2 := rfl; omega) (by have := hb05.size; omega)).mono ?_
    rintro e w6 ⟨rfl, hA, hb6⟩
    have I6 : BldIs w0 b (acc ++ 2 :: (escS s.data.toList ++ [0, 0])) w6 := by
      have e : acc ++ 2 :: (escS s.data.toList ++ [0, 0]) = acc ++ [2] ++ escS s.data.toList ++ [0, 0] := by simp
      unfold BldIs
      rw [e, ← bytes_appW]
      exact .inr hA
    have hb06 := hb05.trans hb6
    go_wp2_with fail
    go_end0
    exact ⟨rfl, I6, hb06⟩
theorem encL_snoc (xs : List ByteArray) (k : Nat) (h : k < xs.length) : encL (xs.take (k + 1)) = encL (xs.take k) ++ encS xs[k].data.toList := by
  have app : ∀ a b : List ByteArray, encL (a ++ b) = encL a ++ encL b := by
    intro a b
    induction a with
    | nil => rfl
    | cons x a ih => show encS x.data.toList ++ encL (a ++ b) = (encS x.data.toList ++ encL a) ++ encL b; rw [ih, List.append_assoc]
  rw [List.take_succ_eq_append_getElem h, app]
  congr 1
  show encS xs[k].data.toList ++ [] = _
  rw [List.append_nil]
theorem encS_len (s : List UInt8) : (encS s).length ≤ 2 * s.length + 9 := by
  have := escS_len s
  unfold encS
  split
  · rw [List.length_cons, beK_len]; omega
  · rw [List.length_cons, List.length_append]
    show (escS s).length + 2 + 1 ≤ _
    omega
theorem encL_len : ∀ xs : List ByteArray, (∀ s ∈ xs, s.size ≤ 24) → (encL xs).length ≤ 60 * xs.length
  | [], _ => by simp [encL]
  | x :: xs, h => by
    have h1 := encL_len xs fun s hs => h s (List.mem_cons_of_mem _ hs)
    have h2 := encS_len x.data.toList
    have h3 := h x (by simp)
    rw [size_len] at h3
    show (encS x.data.toList ++ encL xs).length ≤ _
    rw [List.length_append, List.length_cons]
    omega
theorem subsB_inv {xs : List ByteArray} (h : subsB xs = true) : xs.length ≤ 4 ∧ ∀ s ∈ xs, s.size ≤ 24 := by
  unfold subsB at h
  rw [Bool.and_eq_true, decide_eq_true_eq] at h
  refine ⟨h.1, fun s hs => ?_⟩
  have := List.all_eq_true.1 h.2 s hs
  unfold subB at this
  rw [Bool.and_eq_true, decide_eq_true_eq, decide_eq_true_eq] at this
  exact this.2
def putL (xs : List ByteArray) : List UInt8 := if subsB xs = true then encL xs else []

set_option maxHeartbeats 4000000 in
set_option maxRecDepth 100000 in
theorem PutSubs_no (v : Value) (w0 : World) (hSub : Calls Tryz.prog 66 #[v] w0 fun e w' => e = .returned (.bool false) ∧ Below w0.heap.size w0 w') :
    Calls Tryz.prog 21 #[v] w0 (StrPost [] w0) := by
  go_enter Tryz.func21, Tryz.ntmps21
  go_wp2_with fail
  refine hSub.mono ?_
  rintro e w1 ⟨rfl, hb1⟩
  go_wp2_with fail
  go_ret
  exact StrPost.of rfl hb1
set_option maxHeartbeats 4000000 in
set_option maxRecDepth 100000 in
theorem PutSubs_nil (a : Option Addr) (cap : Nat) (w0 : World) (hSub : Calls Tryz.prog 66 #[.slice a 0 cap] w0 fun e w' => e = .returned (.bool true) ∧ Below w0.heap.size w0 w') :
    Calls Tryz.prog 21 #[.slice a 0 cap] w0 (StrPost [] w0) := by
  go_enter Tryz.func21, Tryz.ntmps21
  go_wp2_with fail
  refine hSub.mono ?_
  rintro e w1 ⟨rfl, hb1⟩
  have hbA : Below w0.heap.size w0 (w1.alloc (.cells #[.pointer none, .slice none 0 0] 89)) := hb1.alloc hb1.size _
  have I0 : Lib.IsBuilder 89 5 w1.heap.size w1.heap.size (Lib.byteCells []) (w1.alloc (.cells #[.pointer none, .slice none 0 0] 89)) := Lib.fresh_isBuilder 89 5 w1
  go_wp2_with fail
  go_loopw [11] (fun i wr => i = .int .i64 0 ∧ wr = w1.alloc (.cells #[.pointer none, .slice none 0 0] 89)) (fun _ _ => 0)
  case atStart => exact ⟨rfl, rfl⟩
  case round =>
    obtain ⟨rfl, rfl⟩ := hrel
    go_wp2_with fail
    refine (Tryz.Builder_String_any w1.heap.size w1.heap.size [] _ I0 (by simp)).mono ?_
    rintro e w2 ⟨rfl, hb2⟩
    go_wp2_with fail
    go_ret
    exact StrPost.of rfl (hbA.trans (hb2.mono hb1.size))
set_option maxHeartbeats 4000000 in
set_option maxRecDepth 100000 in
theorem PutSubs_some (xs : List ByteArray) (b0 off cap : Nat) (w0 : World) (hcell : ∀ j (h : j < xs.length), w0.cell? ⟨b0, off + j, none⟩ = some (.string xs[j])) (hB : subsB xs = true) (hb0 : b0 < w0.heap.size)
    (hSub : Calls Tryz.prog 66 #[.slice (some ⟨b0, off, none⟩) xs.length cap] w0 fun e w' => e = .returned (.bool true) ∧ Below w0.heap.size w0 w') (ht : Tab w0) (hm : MaxLW w0) :
    Calls Tryz.prog 21 #[.slice (some ⟨b0, off, none⟩) xs.length cap] w0 (StrPost (encL xs) w0) := by
  obtain ⟨hx4, hx24⟩ := subsB_inv hB
  have hlen : ∀ k, (encL (xs.take k)).length ≤ 1000 := fun k => by
    have h1 := encL_len (xs.take k) fun s hs => hx24 s (List.mem_of_mem_take hs)
    have h2 := List.length_take_le' k xs
    omega
  go_enter Tryz.func21, Tryz.ntmps21
  go_wp2_with fail
  refine hSub.mono ?_
  rintro e w1 ⟨rfl, hb1⟩
  have ht1 := ht.below hb1
  have hm1 := hm.below hb1
  have I0 : BldIs w1 w1.heap.size (encL (xs.take 0)) (w1.alloc (.cells #[.pointer none, .slice none 0 0] 89)) := Lib.fresh_isBuilder 89 5 w1
  have hbA : Below w1.heap.size w1 (w1.alloc (.cells #[.pointer none, .slice none 0 0] 89)) := (Below.refl _ _).alloc (Nat.le_refl _) _
  have hcell1 : ∀ j (h : j < xs.length), w1.cell? ⟨b0, off + j, none⟩ = some (.string xs[j]) := fun j h => (hb1.cell hb0).trans (hcell j h)
  have hb01 : b0 < w1.heap.size := Nat.lt_of_lt_of_le hb0 hb1.size
  clear hcell ht hm
  go_wp2_with fail
  go_loopw [11] (fun i wr => ∃ k : Nat, k ≤ xs.length ∧ i = .int .i64 k ∧ BldIs w1 w1.heap.size (encL (xs.take k)) wr ∧ Below w1.heap.size w1 wr) (fun i _ => (xs.length - intOf i).toNat)
  case atStart => exact ⟨0, by omega, rfl, I0, hbA⟩
  case round =>
    obtain ⟨k, hk, rfl, hI, hbr⟩ := hrel
    have HI := Lib.hid hI
    have hl := hlen k
    clear hI I0 hbA
    by_cases hlt : k < xs.length
    · have hck : wr.cell? ⟨b0, off + k, none⟩ = some (.string xs[k]) := (hbr.cell hb01).trans (hcell1 k hlt)
      have hsz : xs[k].size ≤ 24 := hx24 _ (List.getElem_mem hlt)
      have HS := Lib.hid (encL_snoc xs k hlt)
      go_wp2_with fail
      refine (putSub_any w1 w1.heap.size (encL (xs.take k)) xs[k] wr hbr HI.out (by omega) (by omega) ht1 hm1).mono ?_
      rintro e w2 ⟨rfl, hI2, hb2⟩
      rw [← HS.out] at hI2
      clear HS hck
      go_wp2_with fail
      go_roundw
      case rel => exact ⟨k + 1, by omega, by go_num, hI2, hb2⟩
      case measure => simp [intOf]; omega
    · obtain rfl : k = xs.length := by omega
      have HF := Lib.hid (show encL (xs.take xs.length) = encL xs by rw [List.take_length])
      go_wp2_with fail
      refine (Tryz.Builder_String_any w1.heap.size w1.heap.size (encL (xs.take xs.length)) wr HI.out hbr.size).mono ?_
      rintro e w2 ⟨rfl, hb2⟩
      have hb02 := hb1.trans ((hbr.trans hb2).mono hb1.size)
      rw [HF.out]
      clear HI HF hlt
      go_wp2_with fail
      go_ret
      exact StrPost.of rfl hb02
end

section
open Go.RowKit Go.Shelf
set_option linter.unusedVariables false

def unesc : List UInt8 → Option (List UInt8 × List UInt8)
  | [] => none
  | [_] => none
  | c :: d :: r => if c = 0 then (if d = 0 then some ([], r) else if d = 255 then (unesc r).map (fun p => (0 :: p.1, p.2)) else none) else (unesc (d :: r)).map (fun p => (c :: p.1, p.2))
theorem unesc_esc : ∀ s r : List UInt8, unesc (escS s ++ 0 :: 0 :: r) = some (s, r)
  | [], r => rfl
  | c :: s, r => by
    have ih := unesc_esc s r
    unfold escS
    by_cases hc : c = 0
    · rw [if_pos hc, hc]
      show unesc (0 :: 255 :: (escS s ++ 0 :: 0 :: r)) = _
      unfold unesc
      rw [if_pos rfl, if_neg (by decide), if_pos rfl, ih]
      rfl
    · rw [if_neg hc]
      show unesc (c :: (escS s ++ 0 :: 0 :: r)) = _
      obtain ⟨d, t, hd⟩ : ∃ d t, escS s ++ 0 :: 0 :: r = d :: t := by cases h : escS s <;> exact ⟨_, _, rfl⟩
      rw [hd] at ih ⊢
      conv => lhs; unfold unesc
      rw [if_neg hc, ih]
      rfl
set_option maxHeartbeats 4000000 in
set_option maxRecDepth 100000 in
theorem getString_any (s : ByteArray) (w : World) (T R : List UInt8) (h : unesc s.data.toList = some (T, R)) (hs : s.size ≤ 2000) :
    Calls Tryz.prog 70 #[.string s] w fun e w' => (∃ x r : ByteArray, x.data.toList = T ∧ r.data.toList = R ∧ e = .returned (.tuple #[.string x, .string r, .bool true])) ∧ Below w.heap.size w w' := by
  have HL := Lib.hid (size_len s)
  have H := Lib.hid h
  clear h
  have hbA : Below w.heap.size w (w.alloc (.cells #[.pointer none, .slice none 0 0] 89)) := (Below.refl _ _).alloc (Nat.le_refl _) _
  have I0 : BldIs w w.heap.size [] (w.alloc (.cells #[.pointer none, .slice none 0 0] 89)) := Lib.fresh_isBuilder 89 5 w
  go_enter Tryz.func70, Tryz.ntmps70
  go_wp2_with fail
  go_loopw [6] (fun i wr => ∃ (k : Nat) (acc : List UInt8), k ≤ s.size + 1 ∧ i = .int .i64 k ∧ acc.length ≤ k ∧ Hid ((unesc (s.data.toList.drop k)).map (fun p => (acc ++ p.1, p.2)) = some (T, R)) ∧ BldIs w w.heap.size acc wr ∧ Below w.heap.size w wr) (fun i _ => (s.size + 1 - intOf i).toNat)
  case atStart => exact ⟨0, [], by omega, rfl, by simp, Lib.hid (by rw [List.drop_zero, H.out]; rfl), I0, hbA⟩
  case round =>
    obtain ⟨k, acc, hk, rfl, hal, hr, hI, hbr⟩ := hrel
    have HI := Lib.hid hI
    clear hI I0 hbA H
    have hcl : (Lib.byteCells acc).length ≤ 3000 := by rw [bytes_lenW]; omega
    have hBs := hbr.size
    have hlt : k + 1 < s.size := by
      rcases Nat.lt_or_ge (k + 1) s.size with h | h
      · exact h
      · exfalso
        have hl := HL.out
        have e := hr.out
        cases hd : s.data.toList.drop k with
        | nil => rw [hd] at e; cases e
        | cons c t =>
          have : t = [] := by
            have := congrArg List.length hd
            rw [List.length_drop, List.length_cons] at this
            exact List.length_eq_zero_iff.1 (by omega)
          subst this
          rw [hd] at e
          cases e
    have HD1 := Lib.hid (drop_at' s k (by omega))
    have HD2 := Lib.hid (drop_at' s (k + 1) hlt)
    have hx1 : s[k].toNat < 256 := UInt8.toNat_lt _
    have hx2 : s[k + 1].toNat < 256 := UInt8.toNat_lt _
    have i1 : (0 : Int) ≤ (k : Int) + 1 := by omega
    have i2 : (k : Int) + 1 < (s.size : Int) := by omega
    have i3 : ((k : Int) + 1).toNat = k + 1 := by omega
    have i0 : (k : Int) < (s.size : Int) := by omega
    by_cases hc : s[k] = 0
    · have q1 : ((s[k].toNat : Int) != 0) = false := by rw [hc]; rfl
      by_cases hd : s[k + 1] = 0
      · have q2 : ((s[k + 1].toNat : Int) == 0) = true := by rw [hd]; rfl
        have HT := Lib.hid (show T = acc ∧ R = s.data.toList.drop (k + 2) by
          have e := hr.out
          rw [HD1.out, HD2.out, hc, hd] at e
          unfold unesc at e
          rw [if_pos rfl, if_pos rfl] at e
          injection e with e
          injection e with e1 e2
          exact ⟨by rw [← e1, List.append_nil], e2.symm⟩)
        have i4 : ((k : Int) + 2).toNat = k + 2 := by omega
        have i5 : (k : Int) + 2 ≤ (s.size : Int) := by omega
        clear hr HD1 HD2 hc hd
        have hR : (s.extract (k + 2) s.size).data.toList = s.data.toList.drop (k + 2) := by
          rw [extract_list, List.take_of_length_le (by have := HL.out; omega)]
        have hstr := Tryz.Builder_String_any w.heap.size w.heap.size acc wr.drew HI.out (show w.heap.size ≤ wr.heap.size by omega)
        have i6 : IntKind.i64.wrap ((k : Int) + 2) = (k : Int) + 2 := by rw [IntKind.wrap_i64]; omega
        have i7 : (0 : Int) ≤ (k : Int) + 2 := by omega
        clear HI
        go_wp2_with fail
        go_region_with ((go_at_call 68; refine hstr.mono ?_; rintro e w1 ⟨rfl, hb1⟩; have HB := Lib.hid (hbr.drew.trans hb1); clear hb1))
        all_goals
          go_wp2_with fail
          refine bodyPost_ret (v := .tuple #[.string ⟨acc.toArray⟩, .string (s.extract (k + 2) s.size), .bool true]) (by simp [results, Tryz.results70, go_sem]) rfl ?_
          exact ⟨⟨⟨acc.toArray⟩, s.extract (k + 2) s.size, by rw [HT.out.1], by rw [hR, HT.out.2], rfl⟩, HB.out⟩
      · by_cases h255 : s[k + 1] = 255
        · have q2 : ((s[k + 1].toNat : Int) == 0) = false := by rw [h255]; rfl
          have q3 : ((s[k + 1].toNat : Int) == 255) = true := by rw [h255]; rfl
          have HN := Lib.hid (show (unesc (s.data.toList.drop (k + 2))).map (fun p => ((acc ++ [0]) ++ p.1, p.2)) = some (T, R) by
            have e := hr.out
            rw [HD1.out, HD2.out, hc, h255] at e
            unfold unesc at e
            rw [if_pos rfl, if_neg (by decide), if_pos rfl, Option.map_map] at e
            rw [← e]
            congr 1
            funext p
            simp)
          clear hr HD1 HD2 hc hd h255
          go_wp2_with fail
          refine (Tryz.Builder_WriteByte w.heap.size w.heap.size (Lib.byteCells acc) 0 wr HI.out (by omega) (by omega)).mono ?_
          rintro e w1 ⟨rfl, hA, hb1⟩
          have hI2 : BldIs w w.heap.size (acc ++ [0]) w1 := by unfold BldIs; rw [← bytes_snocW]; exact .inr hA
          have hbw1 := hbr.trans hb1
          clear hA hb1
          go_wp2_with fail
          go_roundw
          case rel => exact ⟨k + 2, acc ++ [0], by omega, by go_num, by simp; omega, HN, hI2, hbw1⟩
          case measure => simp [intOf]; omega
        · exfalso
          have e := hr.out
          rw [HD1.out, HD2.out, hc] at e
          unfold unesc at e
          rw [if_pos rfl, if_neg hd, if_neg h255] at e
          cases e
    · have q1 : ((s[k].toNat : Int) != 0) = true := by
        have : s[k].toNat ≠ 0 := fun e => hc (UInt8.toNat_inj.1 e)
        simp; omega
      have HN := Lib.hid (show (unesc (s.data.toList.drop (k + 1))).map (fun p => ((acc ++ [s[k]]) ++ p.1, p.2)) = some (T, R) by
        have e := hr.out
        rw [HD1.out, HD2.out] at e
        unfold unesc at e
        rw [if_neg hc, Option.map_map, ← HD2.out] at e
        rw [← e]
        congr 1
        funext p
        simp)
      clear hr HD1 HD2 hc
      go_wp2_with fail
      refine (Tryz.Builder_WriteByte w.heap.size w.heap.size (Lib.byteCells acc) s[k].toNat wr HI.out (by omega) (by omega)).mono ?_
      rintro e w1 ⟨rfl, hA, hb1⟩
      have hI2 : BldIs w w.heap.size (acc ++ [s[k]]) w1 := by unfold BldIs; rw [← bytes_snocW]; exact .inr hA
      have hbw1 := hbr.trans hb1
      clear hA hb1
      go_wp2_with fail
      go_roundw
      case rel => exact ⟨k + 1, acc ++ [s[k]], by omega, by go_num, by simp; omega, HN, hI2, hbw1⟩
      case measure => simp [intOf]; omega
end

section
open Go.RowKit
set_option linter.unusedVariables false

def CV.frz : CV → CV
  | .lst _ _ n l false => .pv (.sl n l)
  | .pv .nils => .pv (.sl 0 [])
  | c => c
def IV.frz1 : IV → IV
  | .cv c => .cv c.frz
  | .agg l => .agg (l.map CV.frz)
  | i => i
def IV.frz : IV → IV
  | .tup is => .tup (is.map IV.frz1)
  | i => i.frz1
section
variable {w : World} {com : Nat → Nat} {loc : Nat → Option Value}
theorem CRep.frz {v : Value} {c : CV} {bs : List Nat} (h : CRep w com loc v c bs) : ∃ bs', CRep w com loc v c.frz bs' ∧ bs'.Sublist bs := by
  cases h with
  | bad => exact ⟨[], .bad v, List.Sublist.refl _⟩
  | pv p h =>
    cases p with
    | nils =>
      cases h
      exact ⟨[], .pv _ _ (.sl0 none 0), List.Sublist.refl _⟩
    | _ => exact ⟨[], .pv _ _ h, List.Sublist.refl _⟩
  | al d h => exact ⟨[], .al v d h, List.Sublist.refl _⟩
  | lst k e n l mt xs h =>
    cases mt with
    | true => exact ⟨_, .lst v k e n l true xs h, List.Sublist.refl _⟩
    | false => exact ⟨[], .pv _ _ h.snap, List.nil_sublist _⟩
theorem CReps.frz {vs : List Value} {cs : List CV} {bs : List Nat} (h : CReps w com loc vs cs bs) : ∃ bs', CReps w com loc vs (cs.map CV.frz) bs' ∧ bs'.Sublist bs := by
  induction h with
  | nil => exact ⟨[], .nil, List.Sublist.refl _⟩
  | cons h h1 k ih =>
    obtain ⟨b1, r1, s1⟩ := h.frz
    obtain ⟨b2, r2, s2⟩ := ih
    exact ⟨_, .cons r1 h1 r2, s1.append s2⟩
theorem IRep.frz {v : Value} {i : IV} {bs : List Nat} (h : IRep w com v i bs) : ∃ bs', IRep w com v i.frz1 bs' ∧ bs'.Sublist bs := by
  cases h with
  | cv v c bs h =>
    obtain ⟨b, r, s⟩ := h.frz
    exact ⟨b, .cv _ _ _ r, s⟩
  | agg cs l bs h =>
    obtain ⟨b, r, s⟩ := h.frz
    exact ⟨b, .agg _ _ _ r, s⟩
  | box b o cur t l bs hb hc h => exact ⟨_, .box b o cur t l bs hb hc h, List.Sublist.refl _⟩
theorem IReps.frz {vs : List Value} {is : List IV} {bs : List Nat} (h : IReps w com vs is bs) : ∃ bs', IReps w com vs (is.map IV.frz1) bs' ∧ bs'.Sublist bs := by
  induction h with
  | nil => exact ⟨[], .nil, List.Sublist.refl _⟩
  | cons h k ih =>
    obtain ⟨b1, r1, s1⟩ := h.frz
    obtain ⟨b2, r2, s2⟩ := ih
    exact ⟨_, .cons r1 r2, s1.append s2⟩
theorem RRep.frz {v : Value} {i : IV} {bs : List Nat} (h : RRep w com v i bs) : ∃ bs', RRep w com v i.frz bs' ∧ bs'.Sublist bs := by
  cases h with
  | one v i bs h =>
    have hh := h
    cases h with
    | cv v c bs h =>
      obtain ⟨b, r, s⟩ := hh.frz
      exact ⟨b, .one _ _ _ r, s⟩
    | agg cs l bs h =>
      obtain ⟨b, r, s⟩ := hh.frz
      exact ⟨b, .one _ _ _ r, s⟩
    | box b o cur t l bs hb hc h =>
      obtain ⟨b, r, s⟩ := hh.frz
      exact ⟨b, .one _ _ _ r, s⟩
  | tup vs is bs h =>
    obtain ⟨b, r, s⟩ := h.frz
    exact ⟨b, .tup _ _ _ r, s⟩
end
theorem Contract.frz {P : Program} {g : FuncId} {ivs : List IV} {res : IV} {bxs : List (List CV)} (h : Contract P g ivs res bxs) : Contract P g ivs res.frz bxs := by
  intro w com vals bs hI hnd hfresh hgl
  refine (h w com vals bs hI hnd hfresh hgl).mono ?_
  rintro e w' ⟨v, com', rbs, bbs, he, hx, hf, hc, hk, hr, hb, hn, hm⟩
  obtain ⟨rbs', hr', hs⟩ := hr.frz
  exact ⟨v, com', rbs', bbs, he, hx, hf, hc, hk, hr', hb, hn.sublist (hs.append (List.Sublist.refl _)), fun b hb => hm b ((hs.append (List.Sublist.refl _)).subset hb)⟩
/-- .. whose result is a new list. -/
theorem contract_new {P : Program} {g : FuncId} {ps : List PV} {k : Nat} {e : TypeId} {n : Nat} {l : List PV} (h : ∀ (w : World) (com : Nat → Nat) (vals : List Value), PReps w com vals ps → (∀ b, w.heap.size ≤ b → com b = 0) →
    Calls P g vals.toArray w fun ex w' => ∃ v xs, ex = .returned v ∧ w'.ownsRow w.heap.size e k v n xs ∧ PReps w com xs l ∧ (∀ u ∈ xs, u.oneCell' = true) ∧ Below w.heap.size w w') : Contract P g (ps.map fun p => .cv (.pv p)) (.cv (.lst k e n l false)) [] := by
  intro w com vals bs hI hnd hfresh hgl
  obtain ⟨hp, rfl⟩ := ivs_inv hI
  refine (h w com vals hp hfresh).mono ?_
  rintro ex w' ⟨v, xs, rfl, ho, hr, h1, hb⟩
  have hnew : ∀ b, v.ownBlock = some b → w.heap.size ≤ b ∧ b < w'.heap.size := fun b hv => by
    rcases ho.2 with ⟨rfl, _⟩ | ⟨g', cap, cur, rfl, hge, hg, _⟩
    · cases hv
    · cases hv
      refine ⟨hge, ?_⟩
      have := (Array.getElem?_eq_some_iff.1 hg).1
      exact this
  have hx : Ext w com w' (fun b => if v.ownBlock = some b then n * k else com b) := by
    refine ⟨fun b => ?_, fun b i hi => ?_⟩
    · split
      · rename_i hv
        rw [hfresh b (hnew b hv).1]
        exact Nat.zero_le _
      · exact Nat.le_refl _
    · have hlt : b < w.heap.size := by
        rcases Nat.lt_or_ge b w.heap.size with h | h
        · exact h
        · rw [hfresh b h] at hi; exact absurd hi (Nat.not_lt_zero _)
      exact contract_flatG.cell_of_block (hb.block b hlt)
  have hown : w'.ownsRow 0 e k v n xs := by
    refine ⟨ho.1, ?_⟩
    rcases ho.2 with h | ⟨g', cap, cur, h1, h2, h3⟩
    · exact .inl h
    · exact .inr ⟨g', cap, cur, h1, Nat.zero_le _, h3⟩
  have hL : LRep w' (fun b => if v.ownBlock = some b then n * k else com b) v k e n l false xs := ⟨hown, hr.mono hx, h1, fun b hv => by rw [if_pos hv]; rfl⟩
  refine ⟨v, _, v.ownBlock.toList, [], rfl, hx, ⟨hb.os, hb.tape, hb.output, hb.size, fun b hlt _ => hb.block b hlt⟩, fun b hs => ?_, fun b hlt _ => ?_, .one _ _ _ (.cv _ _ _ (.lst v k e n l false xs hL)), ?_, ?_, ?_⟩
  · split
    · rename_i hv
      exact absurd (hnew b hv).2 (by omega)
    · exact hfresh b (Nat.le_trans hb.size hs)
  · split
    · rename_i hv
      exact absurd (hnew b hv).1 (by omega)
    · rfl
  · have : ∀ {ps : List PV} {vs : List Value}, vs.length = ps.length → BRep w' (fun b => if v.ownBlock = some b then n * k else com b) vs (ps.map fun p => .cv (.pv p)) [] [] := by
      intro ps
      induction ps with
      | nil => intro vs h; rw [List.length_eq_zero_iff.1 h]; exact .nil
      | cons p ps ih =>
        intro vs h
        cases vs with
        | nil => simp at h
        | cons v vs => exact .other _ _ _ _ _ _ rfl (ih (by simpa using h))
    exact this hp.1
  · rw [List.append_nil]
    cases v.ownBlock <;> simp
  · intro b hb'
    rw [List.append_nil] at hb'
    exact .inr (hnew b (Option.mem_toList.1 hb')).1
end

section
open Go.RowKit
set_option linter.unusedVariables false

def CV.frzM : CV → CV
  | .lst _ _ n l _ => .pv (.sl n l)
  | .pv .nils => .pv (.sl 0 [])
  | c => c
def IV.frzM1 : IV → IV
  | .cv c => .cv c.frzM
  | .agg l => .agg (l.map CV.frzM)
  | i => i
def IV.frzM : IV → IV
  | .tup is => .tup (is.map IV.frzM1)
  | i => i.frzM1
def IV.noBox : IV → Bool
  | .tup is => is.all fun i => !i.isBox
  | i => !i.isBox
/-- The result's blocks, all committed. -/
def comR (w : World) (com : Nat → Nat) (bs : List Nat) : Nat → Nat := fun b => if b ∈ bs then com b + comTop w b else com b
section
variable {w : World} {com : Nat → Nat} {loc : Nat → Option Value}
theorem ext_comR (w : World) (com : Nat → Nat) (bs : List Nat) : Ext w com w (comR w com bs) := ⟨fun b => by
  unfold comR
  split
  · exact Nat.le_add_right _ _
  · exact Nat.le_refl _, fun _ _ _ => rfl⟩
theorem LRep.all {v : Value} {k : Nat} {e : TypeId} {n : Nat} {l : List PV} {mt : Bool} {xs : List Value} (h : LRep w com v k e n l mt xs) {bs : List Nat} (hb : ∀ b ∈ v.ownBlock.toList, b ∈ bs) : PRep w (comR w com bs) v (.sl n l) := by
  have hlen := h.len
  have hx := ext_comR w com bs
  rcases h.own.2 with ⟨rfl, rfl⟩ | ⟨g, cap, cur, rfl, hg0, hg, hnc, hcm, hcs, htake⟩
  · have : l = [] := List.length_eq_zero_iff.1 (by simpa using hlen)
    subst this
    exact .sl0 none 0
  · have hc : ∀ i v, xs[i]? = some v → w.cell? ⟨g, 0 + i, none⟩ = some v := fun i u hu => by
      have hc := @World.ownsRow.cells w 0 e k _ n xs h.own g rfl i u hu
      have ea : (⟨g, 0, none⟩ : Addr).add i = ⟨g, 0 + i, none⟩ := by unfold Addr.add; split <;> simp_all
      rwa [ea] at hc
    refine .sl g 0 n cap xs l hnc h.reps.1 h.one (fun i hi => ?_) hc (h.reps.mono hx).2
    have hlx := h.reps.1
    have := comTop_at (hc i xs[i] (List.getElem?_eq_getElem (by omega)))
    unfold comR
    rw [if_pos (hb g (by simp [Value.ownBlock]))]
    omega
theorem CRep.frzM {v : Value} {c : CV} {bs : List Nat} (h : CRep w com loc v c bs) {B : List Nat} (hb : ∀ b ∈ bs, b ∈ B) : CRep w (comR w com B) loc v c.frzM [] := by
  have hx := ext_comR w com B
  cases h with
  | bad => exact .bad v
  | pv p h =>
    cases p with
    | nils =>
      cases h
      exact .pv _ _ (.sl0 none 0)
    | _ => exact .pv _ _ (h.mono hx)
  | al d h => exact .al v d h
  | lst k e n l mt xs h => exact .pv _ _ (h.all hb)
theorem CReps.frzM {vs : List Value} {cs : List CV} {bs : List Nat} (h : CReps w com loc vs cs bs) {B : List Nat} (hb : ∀ b ∈ bs, b ∈ B) : CReps w (comR w com B) loc vs (cs.map CV.frzM) [] := by
  induction h with
  | nil => exact .nil
  | cons h h1 k ih => exact .cons (h.frzM fun b hx => hb b (List.mem_append.2 (.inl hx))) h1 (ih fun b hx => hb b (List.mem_append.2 (.inr hx)))
theorem IRep.frzM {v : Value} {i : IV} {bs : List Nat} (h : IRep w com v i bs) (hn : i.isBox = false) {B : List Nat} (hb : ∀ b ∈ bs, b ∈ B) : IRep w (comR w com B) v i.frzM1 [] := by
  cases h with
  | cv v c bs h => exact .cv _ _ _ (h.frzM hb)
  | agg cs l bs h => exact .agg _ _ _ (h.frzM hb)
  | box b o cur t l bs hb hc h => cases hn
theorem IReps.frzM {vs : List Value} {is : List IV} {bs : List Nat} (h : IReps w com vs is bs) (hn : (is.all fun i => !i.isBox) = true) {B : List Nat} (hb : ∀ b ∈ bs, b ∈ B) : IReps w (comR w com B) vs (is.map IV.frzM1) [] := by
  induction h with
  | nil => exact .nil
  | cons h k ih =>
    rw [List.all_cons, Bool.and_eq_true] at hn
    exact .cons (h.frzM (by simpa using hn.1) fun b hx => hb b (List.mem_append.2 (.inl hx))) (ih hn.2 fun b hx => hb b (List.mem_append.2 (.inr hx)))
theorem RRep.frzM {v : Value} {i : IV} {bs : List Nat} (h : RRep w com v i bs) (hn : i.noBox = true) {B : List Nat} (hb : ∀ b ∈ bs, b ∈ B) : RRep w (comR w com B) v i.frzM [] := by
  cases h with
  | one v i bs h =>
    have hh := h
    cases h with
    | cv v c bs h => exact .one _ _ _ (hh.frzM rfl hb)
    | agg cs l bs h => exact .one _ _ _ (hh.frzM rfl hb)
    | box b o cur t l bs hb hc h => cases hn
  | tup vs is bs h => exact .tup _ _ _ (h.frzM hn hb)
theorem BRep.keepM {com' : Nat → Nat} {vs : List Value} {is : List IV} {bx : List (List CV)} {bs : List Nat} (h : BRep w com vs is bx bs) (x : Ext w com w com') (hb : ∀ b ∈ bs, com' b = com b) : BRep w com' vs is bx bs := by
  induction h with
  | nil => exact .nil
  | box b o cur t l l' bs vs is bx bs' h1 hc h k ih =>
    exact .box b o cur t l l' bs vs is bx bs' h1 ((hb b (by simp)).trans hc) (h.keep x (fun _ _ h => h) fun b' hx => ⟨rfl, hb b' (by simp [hx])⟩) (ih fun b' hx => hb b' (by simp [hx]))
  | other v i vs is bx bs hi k ih => exact .other v i vs is bx bs hi (ih hb)
theorem CReps.blkM {vs : List Value} {cs : List CV} {bs : List Nat} (h : CReps w com loc vs cs bs) : ∀ b ∈ bs, b < w.heap.size := h.lt
theorem IRep.blkM {v : Value} {i : IV} {bs : List Nat} (h : IRep w com v i bs) : ∀ b ∈ bs, b < w.heap.size := by
  have := (IReps.cons h .nil).blk
  rwa [List.append_nil] at this
theorem RRep.blkM {v : Value} {i : IV} {bs : List Nat} (h : RRep w com v i bs) : ∀ b ∈ bs, b < w.heap.size := by
  cases h with
  | one v i bs h => exact h.blkM
  | tup vs is bs h => exact h.blk
end
theorem Contract.frzM {P : Program} {g : FuncId} {ivs : List IV} {res : IV} {bxs : List (List CV)} (h : Contract P g ivs res bxs) (hnb : res.noBox = true) : Contract P g ivs res.frzM bxs := by
  intro w com vals bs hI hnd hfresh hgl
  refine (h w com vals bs hI hnd hfresh hgl).mono ?_
  rintro e w' ⟨v, com', rbs, bbs, he, hx, hf, hc, hk, hr, hb, hn, hm⟩
  obtain ⟨hn1, hn2, hn3⟩ := List.nodup_append.1 hn
  have hx2 := ext_comR w' com' rbs
  refine ⟨v, comR w' com' rbs, [], bbs, he, hx.trans hx2, hf, fun b hs => ?_, fun b hlt hnb' => ?_, hr.frzM hnb fun b h => h, hb.keepM hx2 fun b hb' => ?_, hn2, fun b hb' => hm b (List.mem_append.2 (.inr (by simpa using hb')))⟩
  · unfold comR
    rw [if_neg (fun h => absurd (hr.blkM b h) (by omega))]
    exact hc b hs
  · unfold comR
    rw [if_neg (fun h => ?_)]
    · exact hk b hlt hnb'
    · rcases hm b (List.mem_append.2 (.inl h)) with h | h
      · exact hnb' h
      · omega
  · unfold comR
    rw [if_neg (fun h => hn3 b h b hb' rfl)]
theorem entry_ofM {P : Program} (hmix : P.follows .mixedOrders = true) {tab : List (FuncId × Entry)} (hT : EntriesOk P tab) {lp : List (Nat × List Nat × List Nat)} {LO : LoopT} {g : FuncId} {fn : Func} (hf : FnAt P g fn) (h0 : Nat.blt 0 fn.ntmps = true) {E : Entry}
    (h : ∀ ivs res bxs, pickA (E ivs) = some (res, bxs) → (∀ b ∈ loopsIn (bodyOf fn), LoopOk P (tabL tab) (OL lp) fn.ntmps (pbOf (boxSlots 0 ivs)) LO b) ∧ ∃ R, evB brC P tab lp LO fn ivs = some (R, bxs) ∧ R.noBox = true ∧ R.frzM = res) : EntryOk P g E :=
  ⟨⟨_, hf⟩, fun ivs res bxs he => by
    obtain ⟨h1, R, h2, h3, rfl⟩ := h ivs res bxs he
    exact (fun_okB hmix (tabL_ok hT) hf h0 rfl h1 h2).frzM h3⟩
end

section
open Go.RowKit
set_option linter.unusedVariables false

noncomputable def E_NumText : Entry := fun ivs => match ivs with | [.cv (.pv (.int .i64 n))] => [(numIn n, cS (bs (textOf n)), [])] | _ => []
noncomputable def E_PutSubs : Entry := fun ivs => match ivs with | [.cv (.pv p)] => [(isL p, cS (bs (putL (asL p))), [])] | _ => []
noncomputable def E_getString : Entry := fun ivs => match ivs with
  | [.cv (.pv (.str s))] => [((unesc s.data.toList).isSome && decide (s.size ≤ 2000), .tup [cS (bs ((unesc s.data.toList).getD ([], [])).1), cS (bs ((unesc s.data.toList).getD ([], [])).2), cB true], [])]
  | _ => []
/-- The number that bytes make. -/
def beV (l : List UInt8) : Nat := l.foldl (fun n c => n * 256 + c.toNat) 0
abbrev lp_getNum : List (Nat × List Nat × List Nat) := [(5, [0, 5, 10], [0, 5])]
def LO_getNum : LoopT := fun _ ls => match ls with
  | [(.pv (.str s), none), (.pv (.int .u64 x), none), (.pv (.int .i64 i), none)] =>
    [(decide (8 ≤ s.size) && (x == 0) && (i == 0), .exit 0, [aS s, (.pv (.int .u64 (beV (s.data.toList.take 8))), none)])]
  | _ => []
noncomputable def wda : List (FuncId × Entry) := [(125, E_NumText)]
noncomputable def r_getNum (br : Br) (s : ByteArray) (x i : Int) := rdB br Tryz.prog wda lp_getNum LO_getNum Tryz.f69 5 [] [aS s, (.pv (.int .u64 x), none), aI i]
noncomputable def q_getNum (br : Br) (s : ByteArray) := evB br Tryz.prog wda lp_getNum LO_getNum Tryz.f69 [cS s]
noncomputable def E_getNum : Entry := fun ivs => match ivs with
  | [.cv (.pv (.str s))] => [(decide (8 ≤ s.size) && decide (s.size ≤ 2000) && numIn ((beV (s.data.toList.take 8) : Int) - 1000000000000000000),
      .tup [cS (bs (textOf ((beV (s.data.toList.take 8) : Int) - 1000000000000000000))), cS (bs (s.data.toList.drop 8)), cB true], [])]
  | _ => []
/-- The subscripts of an encoding. -/
noncomputable def decL (l : List UInt8) : List ByteArray := @Classical.epsilon (List ByteArray) ⟨[]⟩ fun xs => l = encL xs
def isEnc (l : List UInt8) : Prop := ∃ xs, l = encL xs ∧ subsB xs = true
noncomputable def wdb : List (FuncId × Entry) := (69, E_getNum) :: (70, E_getString) :: (66, E_ISubsOk) :: [(21, E_PutSubs)]
abbrev lp_get : List (Nat × List Nat × List Nat) := [(2, [0, 4, 5], [0, 2, 3, 4])]
noncomputable def LO_get : LoopT := fun _ ls => match ls with
  | [(.pv (.str s), none), (.own x, some (.lst 1 e cn cl false)), (.pv (.str r), none)] =>
    [(holds (isEnc r.data.toList) && Nat.beq e 9 && Nat.beq x 16384 && Nat.beq cn 0 && nilB cl, .exit 0, [aS s, aX, aX, aL 4 1 9 (decL r.data.toList).length ((decL r.data.toList).map .str)])]
  | _ => []
noncomputable def r_get (br : Br) (s : ByteArray) (cn : Nat) (cl : List PV) (r : ByteArray) := rdB br Tryz.prog wdb lp_get LO_get Tryz.f22 2 [] [aS s, aL 4 1 9 cn cl, aS r]
noncomputable def q_get2 (br : Br) (s : ByteArray) := evB br Tryz.prog wdb lp_get LO_get Tryz.f22 [cS s]
noncomputable def E_GetSubs : Entry := fun ivs => match ivs with
  | [.cv (.pv (.str s))] => [(holds (isEnc s.data.toList), .tup [cP (pL (decL s.data.toList)), cB true], [])]
  | _ => []
end

section
set_option linter.unusedVariables false
set_option maxRecDepth 100000
theorem q_getNum_eq (s : ByteArray) : q_getNum brC s =
 brC (decide ((↑(ByteArray.size s) : Int) < 8))
  (some ((IV.tup [IV.cv (CV.pv (PV.str { data := #[] })), IV.cv (CV.pv (PV.str { data := #[] })), IV.cv (CV.pv (PV.bool false))], [])))
  (brC (decide (8 ≤ ByteArray.size s) && 0 == 0 && 0 == 0)
    (brC (decide ((↑(beV (List.take 8 (Array.toList (ByteArray.data s)))) : Int) > 2000000000000000000))
      (some ((IV.tup [IV.cv (CV.pv (PV.str { data := #[] })), IV.cv (CV.pv (PV.str { data := #[] })), IV.cv (CV.pv (PV.bool false))], [])))
      (brC (numIn (IntKind.wrap IntKind.i64 (IntKind.wrap IntKind.i64 (↑(beV (List.take 8 (Array.toList (ByteArray.data s)))) : Int) - 1000000000000000000)))
        (brC (decide (0 ≤ 8) && decide (8 ≤ (↑(ByteArray.size s) : Int)) && decide ((↑(ByteArray.size s) : Int) ≤ (↑(ByteArray.size s) : Int)) && true && true)
          (some ((IV.tup [IV.cv (CV.pv (PV.str (bs (textOf (IntKind.wrap IntKind.i64 (IntKind.wrap IntKind.i64 (↑(beV (List.take 8 (Array.toList (ByteArray.data s)))) : Int) - 1000000000000000000)))))), IV.cv (CV.pv (PV.str (ByteArray.extract s 8 (Int.toNat (↑(ByteArray.size s) : Int))))), IV.cv (CV.pv (PV.bool true))], [])))
          (none))
        (none)))
    (none)) := by kernel_rfl
theorem q_get2_eq (s : ByteArray) : q_get2 brC s =
 brC (holds (isEnc (Array.toList (ByteArray.data s))) && Nat.beq 9 9 && Nat.beq 16384 16384 && Nat.beq 0 0 && nilB [])
  (brC (isL (PV.sl (List.length (decL (Array.toList (ByteArray.data s)))) (List.map PV.str (decL (Array.toList (ByteArray.data s))))))
    (brC (!subsB (asL (PV.sl (List.length (decL (Array.toList (ByteArray.data s)))) (List.map PV.str (decL (Array.toList (ByteArray.data s)))))))
      (some ((IV.tup [IV.cv (CV.pv PV.nils), IV.cv (CV.pv (PV.bool false))], [])))
      (brC (isL (PV.sl (List.length (decL (Array.toList (ByteArray.data s)))) (List.map PV.str (decL (Array.toList (ByteArray.data s))))))
        (brC (!ByteArray.toList (bs (putL (asL (PV.sl (List.length (decL (Array.toList (ByteArray.data s)))) (List.map PV.str (decL (Array.toList (ByteArray.data s)))))))) == ByteArray.toList s)
          (some ((IV.tup [IV.cv (CV.pv PV.nils), IV.cv (CV.pv (PV.bool false))], [])))
          (some ((IV.tup [IV.cv (CV.lst 1 9 (List.length (decL (Array.toList (ByteArray.data s)))) (List.map PV.str (decL (Array.toList (ByteArray.data s)))) false), IV.cv (CV.pv (PV.bool true))], []))))
        (none)))
    (none))
  (none) := by kernel_rfl
theorem r_getNum_eq (s : ByteArray) (x : Int) (i : Int) : r_getNum brC s x i =
 brC (decide (i < 8))
  (brC (decide (0 ≤ i) && decide (i < (↑(ByteArray.size s) : Int)) && true)
    (some (Sum.inl [(AV.pv (PV.str s), none), (AV.pv (PV.int IntKind.u64 (IntKind.wrap IntKind.u64 (IntKind.wrap IntKind.u64 (x * 2 ^ 8) + IntKind.wrap IntKind.u64 (↑(UInt8.toNat (List.getD (Array.toList (ByteArray.data s)) (Int.toNat i) 0)) : Int)))), none), (AV.pv (PV.int IntKind.i64 (IntKind.wrap IntKind.i64 (i + 1))), none)]))
    (none))
  (some (Sum.inr (Ex.exit 0, [(AV.pv (PV.str s), none), (AV.pv (PV.int IntKind.u64 x), none)]))) := by kernel_rfl
theorem r_get_eq (s : ByteArray) (cn : Nat) (cl : List PV) (r : ByteArray) : r_get brC s cn cl r =
 brC (!ByteArray.toList r == [])
  (brC (decide ((↑cn : Int) ≤ 4))
    (brC (decide (0 ≤ 0) && decide (0 < (↑(ByteArray.size r) : Int)) && true)
      (brC ((↑(UInt8.toNat (List.getD (Array.toList (ByteArray.data r)) 0 0)) : Int) == 1)
        (brC (decide (0 ≤ 1) && decide (1 ≤ (↑(ByteArray.size r) : Int)) && decide ((↑(ByteArray.size r) : Int) ≤ (↑(ByteArray.size r) : Int)) && true && true)
          (brC (decide (8 ≤ ByteArray.size (ByteArray.extract r 1 (Int.toNat (↑(ByteArray.size r) : Int)))) && decide (ByteArray.size (ByteArray.extract r 1 (Int.toNat (↑(ByteArray.size r) : Int))) ≤ 2000) && numIn ((↑(beV (List.take 8 (Array.toList (ByteArray.data (ByteArray.extract r 1 (Int.toNat (↑(ByteArray.size r) : Int))))))) : Int) - 1000000000000000000))
            (brC (Nat.beq (List.length [PV.str (bs (textOf ((↑(beV (List.take 8 (Array.toList (ByteArray.data (ByteArray.extract r 1 (Int.toNat (↑(ByteArray.size r) : Int))))))) : Int) - 1000000000000000000)))]) (1 * 1) && (decide (cn + 1 ≤ 140737488351232) && decide ((cn + 1) * 16 ≤ 140737488355328)))
              (some (Sum.inl [(AV.pv (PV.str s), none), (AV.own 16384, some (Ob.lst 1 9 (cn + 1) (cl ++ [PV.str (bs (textOf ((↑(beV (List.take 8 (Array.toList (ByteArray.data (ByteArray.extract r 1 (Int.toNat (↑(ByteArray.size r) : Int))))))) : Int) - 1000000000000000000)))]) false)), (AV.pv (PV.str (bs (List.drop 8 (Array.toList (ByteArray.data (ByteArray.extract r 1 (Int.toNat (↑(ByteArray.size r) : Int)))))))), none)]))
              (none))
            (none))
          (none))
        (brC ((↑(UInt8.toNat (List.getD (Array.toList (ByteArray.data r)) 0 0)) : Int) == 2)
          (brC (decide (0 ≤ 1) && decide (1 ≤ (↑(ByteArray.size r) : Int)) && decide ((↑(ByteArray.size r) : Int) ≤ (↑(ByteArray.size r) : Int)) && true && true)
            (brC (Option.isSome (unesc (Array.toList (ByteArray.data (ByteArray.extract r 1 (Int.toNat (↑(ByteArray.size r) : Int)))))) && decide (ByteArray.size (ByteArray.extract r 1 (Int.toNat (↑(ByteArray.size r) : Int))) ≤ 2000))
              (brC (Nat.beq (List.length [PV.str (bs (Prod.fst (Option.getD (unesc (Array.toList (ByteArray.data (ByteArray.extract r 1 (Int.toNat (↑(ByteArray.size r) : Int)))))) ([], []))))]) (1 * 1) && (decide (cn + 1 ≤ 140737488351232) && decide ((cn + 1) * 16 ≤ 140737488355328)))
                (some (Sum.inl [(AV.pv (PV.str s), none), (AV.own 16384, some (Ob.lst 1 9 (cn + 1) (cl ++ [PV.str (bs (Prod.fst (Option.getD (unesc (Array.toList (ByteArray.data (ByteArray.extract r 1 (Int.toNat (↑(ByteArray.size r) : Int)))))) ([], []))))]) false)), (AV.pv (PV.str (bs (Prod.snd (Option.getD (unesc (Array.toList (ByteArray.data (ByteArray.extract r 1 (Int.toNat (↑(ByteArray.size r) : Int)))))) ([], []))))), none)]))
                (none))
              (none))
            (none))
          (some (Sum.inr (Ex.ret, [(AV.pv (PV.str s), none), (AV.pv PV.nils, none), (AV.pv (PV.bool false), none), (AV.own 16384, some (Ob.lst 1 9 cn cl false))])))))
      (none))
    (some (Sum.inr (Ex.exit 0, [(AV.pv (PV.str s), none), (AV.bad, none), (AV.bad, none), (AV.own 16384, some (Ob.lst 1 9 cn cl false))]))))
  (some (Sum.inr (Ex.exit 0, [(AV.pv (PV.str s), none), (AV.bad, none), (AV.bad, none), (AV.own 16384, some (Ob.lst 1 9 cn cl false))]))) := by kernel_rfl
end

section
open Go.RowKit
set_option linter.unusedVariables false
set_option linter.unusedSimpArgs false
set_option maxRecDepth 100000

theorem maxW_gl {w : World} {com : Nat → Nat} (h : Gl w com) : MaxLW w := by
  obtain ⟨m, h1, _⟩ := h.1
  exact ⟨m, h1⟩
theorem ok_NumText : EntryOk Tryz.prog 125 E_NumText := ⟨⟨_, Tryz.func125, by kernel_rfl, by kernel_rfl⟩, fun ivs res bxs h => by
  unfold E_NumText at h
  split at h
  · rename_i n
    obtain ⟨hc, he⟩ := pick1 h
    cases he
    refine contract_flatG (ps := [.int .i64 n]) (v := .string (bs (textOf n))) rfl fun w com vals hv _ hgl => ?_
    obtain ⟨v, vs, rfl, hv1, hn⟩ := hv.of_cons
    rw [hn.of_nil]
    cases hv1
    refine (NumText_any n w (numIn_ok hc) (tab_gl hgl)).mono ?_
    rintro e w' ⟨r, hr, rfl, hb⟩
    exact ⟨by rw [← hr, bs_self], hb⟩
  · cases h⟩
theorem ok_PutSubs : EntryOk Tryz.prog 21 E_PutSubs := ⟨⟨_, Tryz.func21, by kernel_rfl, by kernel_rfl⟩, fun ivs res bxs h => by
  unfold E_PutSubs at h
  split at h
  · rename_i p
    obtain ⟨hc, he⟩ := pick1 h
    cases he
    obtain ⟨xs, rfl, hx⟩ := isL_inv hc
    have e4 : asL (pL xs) = xs := asL_mk xs
    rw [e4]
    refine contract_flatG (ps := [pL xs]) (v := .string (bs (putL xs))) rfl fun w com vals hv hfr hgl => ?_
    have hSub : Calls Tryz.prog 66 vals.toArray w fun e w' => e = .returned (.bool (subsB xs)) ∧ Below w.heap.size w w' := by
      have hk := ok_ISubsOk.2 [cP (pL xs)] (cB (subsB xs)) [] (by
        unfold E_ISubsOk
        dsimp only [pickA]
        rw [hc, e4]
        rfl)
      refine (Contract.plain (ps := [pL xs]) hk hv hfr hgl).mono ?_
      rintro e w' ⟨v, com', rfl, hp, _, _, _, hb⟩
      cases hp
      exact ⟨rfl, hb⟩
    obtain ⟨v, vs, rfl, hv1, hn⟩ := hv.of_cons
    rw [hn.of_nil] at hSub ⊢
    have fin : ∀ l : List UInt8, l = putL xs → Calls Tryz.prog 21 #[v] w (StrPost l w) → Calls Tryz.prog 21 [v].toArray w fun e w' => e = .returned (.string (bs (putL xs))) ∧ Below w.heap.size w w' := fun l hl h => by
      refine h.mono ?_
      rintro e w' ⟨r, hr, rfl, hb⟩
      exact ⟨by rw [← hl, ← hr, bs_self], hb⟩
    cases hB : subsB xs with
    | false =>
      rw [hB] at hSub
      exact fin [] (by unfold putL; rw [hB]; rfl) (PutSubs_no v w hSub)
    | true =>
      rw [hB] at hSub
      have hE : putL xs = encL xs := by unfold putL; rw [if_pos hB]
      cases xs with
      | nil =>
        cases hv1 with
        | sl0 a c => exact fin [] (by rw [hE]; rfl) (PutSubs_nil a c w hSub)
        | sl b off n cap cs l hnc hl h1 hcm hm he => exact fin [] (by rw [hE]; rfl) (PutSubs_nil _ cap w hSub)
      | cons y ys =>
        cases hv1 with
        | sl b off _ cap cs _ hnc hl h1 hcm hm he =>
          have hcell : ∀ j (h : j < (y :: ys).length), w.cell? ⟨b, off + j, none⟩ = some (.string (y :: ys)[j]) := fun j h => by
            have hlen : cs.length = (y :: ys).length := by rw [hl, List.length_map]
            have hj : j < cs.length := by rw [hlen]; exact h
            have hj' : j < ((y :: ys).map PV.str).length := by rw [List.length_map]; exact h
            have hp := he j hj hj'
            rw [List.getElem_map] at hp
            have hc := hm j cs[j] (List.getElem?_eq_getElem hj)
            rw [hc]
            generalize cs[j] = u at hp
            cases hp
            rfl
          have hb0 : b < w.heap.size := by
            rcases Nat.lt_or_ge b w.heap.size with h | h
            · exact h
            · have := hcm 0 (by simp)
              rw [hfr b h] at this
              exact absurd this (Nat.not_lt_zero _)
          exact fin (encL (y :: ys)) hE.symm (PutSubs_some (y :: ys) b off cap w hcell hB hb0 hSub (tab_gl hgl) (maxW_gl hgl))
  · cases h⟩
theorem ok_getString : EntryOk Tryz.prog 70 E_getString := ⟨⟨_, Tryz.func70, by kernel_rfl, by kernel_rfl⟩, fun ivs res bxs h => by
  unfold E_getString at h
  split at h
  · rename_i s
    obtain ⟨hc, he⟩ := pick1 h
    cases he
    rw [Bool.and_eq_true, decide_eq_true_eq] at hc
    obtain ⟨⟨T, R⟩, hu⟩ := Option.isSome_iff_exists.1 hc.1
    rw [hu]
    intro w com vals bs' hI hnd hfresh hgl
    obtain ⟨hp, rfl⟩ := ivs_inv (ps := [.str s]) hI
    obtain ⟨v, vs, rfl, hv1, hn⟩ := hp.of_cons
    rw [hn.of_nil]
    cases hv1
    refine (getString_any s w T R hu hc.2).mono ?_
    rintro e w' ⟨⟨x, r, hx, hr, rfl⟩, hb⟩
    have ex : x = bs T := by rw [← hx, bs_self]
    have er : r = bs R := by rw [← hr, bs_self]
    subst ex
    subst er
    refine ⟨_, com, [], [], rfl, ⟨fun _ => Nat.le_refl _, fun b i hi => ?_⟩, ⟨hb.os, hb.tape, hb.output, hb.size, fun b hlt _ => hb.block b hlt⟩, fun b h => hfresh b (Nat.le_trans hb.size h), fun _ _ _ => rfl, ?_, .other _ _ _ _ _ _ rfl .nil, List.nodup_nil, fun b hb => by cases hb⟩
    · have hlt : b < w.heap.size := by
        rcases Nat.lt_or_ge b w.heap.size with h | h
        · exact h
        · rw [hfresh b h] at hi; exact absurd hi (Nat.not_lt_zero _)
      exact contract_flatG.cell_of_block (hb.block b hlt)
    · exact .tup [.string (bs T), .string (bs R), .bool true] [cS (bs T), cS (bs R), cB true] [] (.cons (b1 := []) (.cv _ _ _ (.pv _ _ (.str _))) (.cons (b1 := []) (.cv _ _ _ (.pv _ _ (.str _))) (.cons (b1 := []) (.cv _ _ _ (.pv _ _ (.bool _))) .nil)))
  · cases h⟩
theorem ok_wda : EntriesOk Tryz.prog wda := ⟨ok_NumText, trivial⟩
theorem beV_snoc (l : List UInt8) (c : UInt8) : beV (l ++ [c]) = beV l * 256 + c.toNat := by unfold beV; rw [List.foldl_append]; rfl
theorem beV_lt (l : List UInt8) : ∀ n, l.length = n → beV l < 256 ^ n := by
  intro n
  induction n generalizing l with
  | zero => intro h; rw [List.length_eq_zero_iff.1 h]; decide
  | succ n ih =>
    intro h
    have hne : l ≠ [] := fun e => by rw [e] at h; cases h
    obtain ⟨m, c, rfl⟩ : ∃ m c, l = m ++ [c] := ⟨l.dropLast, l.getLast hne, (List.dropLast_concat_getLast hne).symm⟩
    rw [List.length_append, List.length_singleton] at h
    have := ih m (by omega)
    have hc := UInt8.toNat_lt c
    rw [beV_snoc, Nat.pow_succ]
    omega
theorem beV_beK : ∀ (k n a : Nat), (beK k n).foldl (fun n c => n * 256 + c.toNat) a = a * 256 ^ k + n % 256 ^ k
  | 0, n, a => by
    show a = _
    rw [Nat.pow_zero, Nat.mul_one, Nat.mod_one]
    rfl
  | k + 1, n, a => by
    unfold beK
    rw [List.foldl_cons, beV_beK k n, UInt8.toNat_ofNat_of_lt' (by simpa using Nat.mod_lt (n / 256 ^ k) (by decide : 0 < 256)), Nat.pow_succ, Nat.mod_mul, Nat.add_mul, Nat.mul_assoc, Nat.mul_comm 256 (256 ^ k), Nat.mul_comm (n / 256 ^ k % 256)]
    omega
theorem getNum_loop (s : ByteArray) (hs : 8 ≤ s.data.toList.length) : ∀ (m i : Nat), m + i = 8 → LoopsTo (rdB brC Tryz.prog wda lp_getNum LO_getNum Tryz.f69 5 []) [aS s, (.pv (.int .u64 (beV (s.data.toList.take i))), none), aI i]
    (.exit 0, [aS s, (.pv (.int .u64 (beV (s.data.toList.take 8))), none)]) := by
  have hl : s.size = s.data.toList.length := size_len s
  intro m
  induction m with
  | zero =>
    intro i hm
    obtain rfl : i = 8 := by omega
    refine .done _ _ ((r_getNum_eq s _ ((8 : Nat) : Int)).trans ?_)
    rfl
  | succ m ih =>
    intro i hm
    have ih' := ih (i + 1) (by omega)
    have hi : i < s.data.toList.length := by omega
    have tree := r_getNum_eq s (beV (s.data.toList.take i)) i
    have hb := beV_lt (s.data.toList.take i) i (by rw [List.length_take]; omega)
    have hp : 256 ^ i ≤ 256 ^ 7 := Nat.pow_le_pow_right (by decide) (by omega)
    have big : (256 : Nat) ^ 7 = 72057594037927936 := by decide
    have hc := UInt8.toNat_lt s.data.toList[i]
    have hg : s.data.toList.getD i 0 = s.data.toList[i] := by rw [List.getD_eq_getElem?_getD, List.getElem?_eq_getElem hi]; rfl
    have e1 : IntKind.wrap .u64 (((beV (s.data.toList.take i) : Nat) : Int) * 2 ^ 8) = ((beV (s.data.toList.take i) * 256 : Nat) : Int) := by
      rw [show (2 : Int) ^ 8 = 256 from rfl, Go.IntWalk.u64_in _ ⟨by omega, by omega⟩]
      omega
    have e2 : IntKind.wrap .u64 ((s.data.toList[i].toNat : Nat) : Int) = ((s.data.toList[i].toNat : Nat) : Int) := Go.IntWalk.u64_in _ ⟨by omega, by omega⟩
    have e3 : IntKind.wrap .u64 (((beV (s.data.toList.take i) * 256 : Nat) : Int) + ((s.data.toList[i].toNat : Nat) : Int)) = ((beV (s.data.toList.take (i + 1)) : Nat) : Int) := by
      rw [Go.IntWalk.u64_in _ ⟨by omega, by omega⟩, List.take_succ_eq_append_getElem hi, beV_snoc]
      omega
    simp (disch := omega) only [Int.toNat_natCast, hg, e1, e2, e3, wrap1, dT, Bool.and_true, Bool.true_and] at tree
    exact .step _ _ _ tree ih'
theorem ok_getNum : EntryOk Tryz.prog 69 E_getNum := entry_of mix ok_wda (lp := lp_getNum) (LO := LO_getNum) ⟨Tryz.func69, by kernel_rfl, by kernel_rfl⟩ (by kernel_rfl) fun ivs res bxs h => by
  unfold E_getNum at h
  split at h
  · rename_i s
    obtain ⟨hc, he⟩ := pick1 h
    cases he
    simp only [Bool.and_eq_true, decide_eq_true_eq] at hc
    obtain ⟨⟨h8, hs⟩, hin⟩ := hc
    obtain ⟨g1, g2⟩ := numIn_ok hin
    refine ⟨oneLoop 5 (by kernel_rfl) (by kernel_rfl) (by kernel_rfl) ?_, (q_getNum_eq s).trans ?_⟩
    · intro ls e ls' hl
      unfold LO_getNum at hl
      split at hl
      · rename_i s x i
        obtain ⟨hc, he⟩ := pick1 hl
        cases he
        simp only [Bool.and_eq_true, decide_eq_true_eq, beq_iff_eq] at hc
        obtain ⟨⟨k1, rfl⟩, rfl⟩ := hc
        exact getNum_loop s (by rw [← size_len]; exact k1) 8 0 (by omega)
      · cases hl
    · have w1 : IntKind.wrap .i64 ((beV (s.data.toList.take 8) : Nat) : Int) = ((beV (s.data.toList.take 8) : Nat) : Int) := wrapI (by omega) (by omega)
      have w2 : IntKind.wrap .i64 (((beV (s.data.toList.take 8) : Nat) : Int) - 1000000000000000000) = ((beV (s.data.toList.take 8) : Nat) : Int) - 1000000000000000000 := wrapI (by omega) (by omega)
      have hx : s.extract 8 s.size = bs (s.data.toList.drop 8) := by
        rw [extract_bs, List.take_of_length_le (by rw [List.length_drop, ← size_len]; exact Nat.le_refl _)]
      simp (disch := omega) only [dT, dF, w1, w2, hin, Int.toNat_natCast, hx, Bool.and_true, Bool.true_and, beq_self_eq_true]
      rfl
  · cases h
theorem ok_wdb : EntriesOk Tryz.prog wdb := ⟨ok_getNum, ok_getString, ok_ISubsOk, ok_PutSubs, trivial⟩
theorem encL_inj {xs ys : List ByteArray} (h : encL xs = encL ys) : xs = ys := by
  have h1 := encL_lt xs ys
  have h2 := encL_lt ys xs
  rw [h, byteLt_irrefl] at h1 h2
  apply Classical.byContradiction
  intro hne
  have tot : ∀ {x y : List ByteArray}, x ≠ y → subsLt x y = true ∨ subsLt y x = true := by
    intro x
    induction x with
    | nil => intro y hn; cases y with
      | nil => exact absurd rfl hn
      | cons b y => exact .inl rfl
    | cons a x ih => intro y hn; cases y with
      | nil => exact .inr rfl
      | cons b y =>
        unfold subsLt
        by_cases hab : a = b
        · subst hab
          rw [if_pos (sEq_self a), if_pos (sEq_self a)]
          exact ih fun e => hn (by rw [e])
        · rw [if_neg (fun e => hab (sEq_iff.1 e)), if_neg (fun e => hab (sEq_iff.1 e).symm)]
          have := before_total (show a.data.toList ≠ b.data.toList from fun e => hab (ByteArray.ext (Array.ext' e)))
          rw [Bool.or_eq_true] at this
          exact this
  rcases tot hne with h | h
  · rw [h] at h1; cases h1
  · rw [h] at h2; cases h2
theorem decL_enc (xs : List ByteArray) : decL (encL xs) = xs :=
  (encL_inj (@Classical.epsilon_spec (List ByteArray) (fun ys => encL xs = encL ys) ⟨xs, rfl⟩)).symm
theorem bs_data (l : List UInt8) : (bs l).data.toList = l := by show l.toArray.toList = l; simp
theorem toList_nil (l : List UInt8) : (ByteArray.toList (bs l) == ([] : List UInt8)) = l.isEmpty := by
  rw [bs_toList]
  cases l <;> rfl
theorem get_loop (s : ByteArray) : ∀ (ys pre : List ByteArray), pre.length + ys.length ≤ 4 → (∀ y ∈ ys, y.size ≤ 24) → LoopsTo (rdB brC Tryz.prog wdb lp_get LO_get Tryz.f22 2 []) [aS s, aL 4 1 9 pre.length (pre.map .str), aS (bs (encL ys))]
    (.exit 0, [aS s, aX, aX, aL 4 1 9 (pre.length + ys.length) ((pre ++ ys).map .str)])
  | [], pre, hl, hy => by
    refine .done _ _ ((r_get_eq s _ _ _).trans ?_)
    rw [toList_nil, show (encL []).isEmpty = true from rfl]
    rw [List.append_nil]
    rfl
  | y :: ys, pre, hl, hy => by
    rw [List.length_cons] at hl
    have hsz := hy y (by simp)
    have hys := encL_len ys fun z hz => hy z (List.mem_cons_of_mem _ hz)
    have ih := get_loop s ys (pre ++ [y]) (by rw [List.length_append, List.length_singleton]; omega) fun z hz => hy z (List.mem_cons_of_mem _ hz)
    rw [List.length_append, List.length_singleton, List.append_assoc, List.map_append, show pre.length + 1 + ys.length = pre.length + (y :: ys).length by rw [List.length_cons]; omega] at ih
    have tree := r_get_eq s pre.length (pre.map .str) (bs (encL (y :: ys)))
    have hEy := encS_len y.data.toList
    rw [← size_len] at hEy
    obtain ⟨c, L, hL⟩ : ∃ c L, encL (y :: ys) = c :: L := encS_ne y.data.toList (encL ys)
    have hlen : (c :: L).length ≤ 2000 := by
      rw [← hL]
      show (encS y.data.toList ++ encL ys).length ≤ 2000
      rw [List.length_append]
      omega
    have hd : (bs (c :: L)).data.toList = c :: L := bs_data (c :: L)
    have hx : (bs (c :: L)).extract 1 (bs (c :: L)).size = bs L := by
      rw [extract_bs, hd, List.drop_succ_cons, List.drop_zero, List.take_of_length_le (by rw [bs_len, List.length_cons]; omega)]
    have hdl : (bs L).data.toList = L := bs_data L
    have hsz2 : (bs L).size ≤ 2000 := by rw [bs_len]; rw [List.length_cons] at hlen; omega
    have hpos : (0 : Int) < ((bs (c :: L)).size : Int) := by rw [bs_len, List.length_cons]; omega
    have hpos1 : (1 : Int) ≤ ((bs (c :: L)).size : Int) := by omega
    have b1 : ∀ x : PV, Nat.beq (List.length [x]) (1 * 1) = true := fun _ => rfl
    have hg : (c :: L).getD 0 0 = c := rfl
    rw [hL, toList_nil, show (c :: L).isEmpty = false from rfl] at tree
    rw [hL]
    simp (disch := omega) only [dT, Int.toNat_natCast, hd, hx, hdl, hg, b1, Bool.and_true, Bool.true_and] at tree
    by_cases hcn : canonB y.data.toList = true
    · have e : encL (y :: ys) = 1 :: (beK 8 (numOf y.data.toList + 1000000000000000000).toNat ++ encL ys) := by
        show encS y.data.toList ++ encL ys = _
        unfold encS
        rw [if_pos hcn]
        rfl
      rw [e] at hL
      injection hL with h1 h2
      subst h1
      subst h2
      have hr := numOf_range y.data.toList
      generalize hn : (numOf y.data.toList + 1000000000000000000).toNat = n at tree
      have hb : beK 8 n ++ encL ys = beK 8 n ++ encL ys := rfl
      have htk : (beK 8 n ++ encL ys).take 8 = beK 8 n := by rw [List.take_left' (beK_len 8 n)]
      have hdr : (beK 8 n ++ encL ys).drop 8 = encL ys := by rw [List.drop_left' (beK_len 8 n)]
      have hv : beV (beK 8 n) = n := by
        have big : (256 : Nat) ^ 8 = 18446744073709551616 := by decide
        have h := beV_beK 8 n 0
        rw [big] at h
        refine Eq.trans (show beV (beK 8 n) = (beK 8 n).foldl (fun n c => n * 256 + c.toNat) 0 from rfl) ?_
        omega
      have hnn : ((n : Nat) : Int) - 1000000000000000000 = numOf y.data.toList := by omega
      have h8 : 8 ≤ (bs (beK 8 n ++ encL ys)).size := by rw [bs_len, List.length_append, beK_len]; omega
      have hin : numIn (numOf y.data.toList) = true := numIn_mk hr.1 hr.2
      have ht : bs (textOf (numOf y.data.toList)) = y := by
        have := of_decide_eq_true hcn
        rw [this, bs_self]
      have q1 : ((((1 : UInt8).toNat : Nat) : Int) == 1) = true := rfl
      rw [q1, htk, hdr, hv, hnn, hin, ht, dT h8] at tree
      exact .step _ _ _ tree ih
    · have e : encL (y :: ys) = 2 :: (escS y.data.toList ++ 0 :: 0 :: encL ys) := by
        show encS y.data.toList ++ encL ys = _
        unfold encS
        rw [if_neg hcn]
        simp
      rw [e] at hL
      injection hL with h1 h2
      subst h1
      subst h2
      have q1 : ((((2 : UInt8).toNat : Nat) : Int) == 1) = false := rfl
      have q2 : ((((2 : UInt8).toNat : Nat) : Int) == 2) = true := rfl
      have hu := unesc_esc y.data.toList (encL ys)
      rw [q1, q2, hu] at tree
      have ht : bs y.data.toList = y := bs_self y
      simp only [Option.isSome_some, Option.getD_some, ht] at tree
      exact .step _ _ _ tree ih
theorem ok_GetSubs : EntryOk Tryz.prog 22 E_GetSubs := entry_ofM mix ok_wdb (lp := lp_get) (LO := LO_get) ⟨Tryz.func22, by kernel_rfl, by kernel_rfl⟩ (by kernel_rfl) fun ivs res bxs h => by
  unfold E_GetSubs at h
  split at h
  · rename_i s
    obtain ⟨hc, he⟩ := pick1 h
    cases he
    obtain ⟨xs, hs, hB⟩ := holds_inv hc
    obtain ⟨hx4, hx24⟩ := subsB_inv hB
    refine ⟨oneLoop 2 (by kernel_rfl) (by kernel_rfl) (by kernel_rfl) ?_, ?_⟩
    · intro ls e ls' hl
      unfold LO_get at hl
      split at hl
      · rename_i s x e cn cl r
        obtain ⟨hc, he⟩ := pick1 hl
        cases he
        simp only [Bool.and_eq_true] at hc
        obtain ⟨⟨⟨⟨g1, g2⟩, g3⟩, g4⟩, g5⟩ := hc
        obtain ⟨ys, hr, hyB⟩ := holds_inv g1
        obtain ⟨hy4, hy24⟩ := subsB_inv hyB
        rw [Nat.eq_of_beq_eq_true g2, Nat.eq_of_beq_eq_true g3, Nat.eq_of_beq_eq_true g4, nilB_inv g5, hr, decL_enc]
        have := get_loop s ys [] (by simpa using hy4) hy24
        rw [← hr, bs_self] at this
        rw [List.length_nil, Nat.zero_add, List.nil_append] at this
        exact this
      · cases hl
    · have tree := q_get2_eq s
      have hx : shL xs := ⟨by omega, fun z hz => by have := hx24 z hz; omega⟩
      have e1 := isL_mk hx
      have e2 := asL_mk xs
      rw [hs, decL_enc] at tree ⊢
      have hh : holds (isEnc (encL xs)) = true := holds_mk ⟨xs, rfl, hB⟩
      have hp : putL xs = encL xs := by unfold putL; rw [if_pos hB]
      have hq : (ByteArray.toList (bs (encL xs)) == ByteArray.toList s) = true := by rw [← hs, bs_self]; simp
      simp only [isL, hh, nilB_mk, e1, asL_mk, hB, hp, hq, Bool.and_true, Bool.true_and, Nat.beq_refl] at tree
      exact ⟨.tup [.cv (.lst 1 9 xs.length (xs.map .str) false), cB true], tree.trans rfl, rfl, rfl⟩
  · cases h
end

section
open Go.RowKit
set_option linter.unusedVariables false
set_option linter.unusedSimpArgs false

theorem encS_inj {a b r r' : List UInt8} (h : encS a ++ r = encS b ++ r') : a = b ∧ r = r' := by
  by_cases e : a = b
  · subst e
    exact ⟨rfl, List.append_cancel_left h⟩
  · have h1 := encS_lt a b r r'
    have h2 := encS_lt b a r' r
    rw [h, byteLt_irrefl, if_neg e] at h1
    rw [h, byteLt_irrefl, if_neg (Ne.symm e)] at h2
    have := before_total e
    rw [← h1, ← h2] at this
    cases this
theorem enc_pre : ∀ (xs ys : List ByteArray) (r : List UInt8), encL xs ++ r = encL ys → xs.length ≤ ys.length ∧ ys.take xs.length = xs
  | [], ys, r, h => ⟨Nat.zero_le _, rfl⟩
  | x :: xs, [], r, h => by
    unfold encL at h
    rw [List.append_assoc] at h
    obtain ⟨c, t, hc⟩ := encS_ne x.data.toList (encL xs ++ r)
    rw [hc] at h
    cases h
  | x :: xs, y :: ys, r, h => by
    unfold encL at h
    rw [List.append_assoc] at h
    obtain ⟨h1, h2⟩ := encS_inj h
    obtain ⟨h3, h4⟩ := enc_pre xs ys r h2
    have hxy : x = y := ByteArray.ext (Array.ext' h1)
    subst hxy
    exact ⟨Nat.succ_le_succ h3, by rw [List.length_cons, List.take_succ_cons, h4]⟩
theorem encL_app : ∀ (xs ys : List ByteArray), encL (xs ++ ys) = encL xs ++ encL ys
  | [], ys => rfl
  | x :: xs, ys => by
    show encS x.data.toList ++ encL (xs ++ ys) = (encS x.data.toList ++ encL xs) ++ encL ys
    rw [encL_app xs ys, List.append_assoc]
def big1 (N : List UInt8) : Prop := ∀ c ∈ N, 1 < c.toNat
theorem one_ne {c : UInt8} (h : 1 < c.toNat) : c ≠ 1 := fun e => by rw [e] at h; exact absurd h (by decide)
theorem nameB_big {s : ByteArray} (h : nameB s = true) : big1 s.data.toList := by
  intro c hc
  obtain ⟨i, hi, rfl⟩ := List.mem_iff_getElem.1 hc
  have hi' : i < s.size := by exact hi
  unfold nameB at h
  rw [Bool.and_eq_true] at h
  have := List.all_eq_true.1 h.2 i (List.mem_range.2 hi')
  unfold nameAt at this
  rw [get_at s i hi'] at this
  have e : s[i] = s.data.toList[i] := rfl
  rw [e] at this
  unfold letterB digitB at this
  by_cases h0 : i = 0
  · rw [if_pos h0] at this
    simp only [Bool.or_eq_true, Bool.and_eq_true, decide_eq_true_eq] at this
    omega
  · rw [if_neg h0] at this
    simp only [Bool.or_eq_true, Bool.and_eq_true, decide_eq_true_eq] at this
    omega
theorem key_order : ∀ (N M x y : List UInt8), big1 N → big1 M → byteLt (N ++ 1 :: x) (M ++ 1 :: y) = if N = M then byteLt x y else byteLt N M
  | [], [], x, y, hN, hM => by
    rw [if_pos rfl]
    show byteLt (1 :: x) (1 :: y) = _
    rw [byteLt_same]
  | [], m :: M, x, y, hN, hM => by
    have hm := hM m (by simp)
    rw [if_neg (by simp)]
    show byteLt (1 :: x) (m :: (M ++ 1 :: y)) = true
    rw [byteLt_cons, if_neg (Ne.symm (one_ne hm)), decide_eq_true_eq]
    exact hm
  | n :: N, [], x, y, hN, hM => by
    have hn := hN n (by simp)
    rw [if_neg (by simp)]
    show byteLt (n :: (N ++ 1 :: x)) (1 :: y) = false
    rw [byteLt_cons, if_neg (one_ne hn), decide_eq_false_iff_not]
    have : (1 : UInt8).toNat = 1 := rfl
    omega
  | n :: N, m :: M, x, y, hN, hM => by
    have ih := key_order N M x y (fun c h => hN c (List.mem_cons_of_mem _ h)) (fun c h => hM c (List.mem_cons_of_mem _ h))
    show byteLt (n :: (N ++ 1 :: x)) (m :: (M ++ 1 :: y)) = _
    rw [byteLt_cons, byteLt_cons]
    by_cases e : n = m
    · subst e
      rw [if_pos rfl, if_pos rfl, ih]
      by_cases e2 : N = M
      · rw [if_pos e2, if_pos (by rw [e2])]
      · rw [if_neg e2, if_neg (fun h => e2 (by injection h))]
    · rw [if_neg e, if_neg e, if_neg (fun h => e (by injection h))]
theorem key_cut : ∀ {N M x y : List UInt8}, big1 N → big1 M → N ++ 1 :: x = M ++ 1 :: y → N = M ∧ x = y
  | [], [], x, y, hN, hM, h => by injection h with _ h2; exact ⟨rfl, h2⟩
  | [], m :: M, x, y, hN, hM, h => by
    injection h with h1 _
    exact absurd h1.symm (one_ne (hM m (by simp)))
  | n :: N, [], x, y, hN, hM, h => by
    injection h with h1 _
    exact absurd h1 (one_ne (hN n (by simp)))
  | n :: N, m :: M, x, y, hN, hM, h => by
    injection h with h1 h2
    obtain ⟨h3, h4⟩ := key_cut (fun c h => hN c (List.mem_cons_of_mem _ h)) (fun c h => hM c (List.mem_cons_of_mem _ h)) h2
    exact ⟨by rw [h1, h3], h4⟩
/-- How far two texts agree. -/
def comL : List UInt8 → List UInt8 → Nat
  | a :: x, b :: y => if a = b then comL x y + 1 else 0
  | _, _ => 0
theorem comL_le : ∀ x y : List UInt8, comL x y ≤ x.length ∧ comL x y ≤ y.length
  | [], y => ⟨Nat.zero_le _, Nat.zero_le _⟩
  | a :: x, [] => ⟨Nat.zero_le _, Nat.zero_le _⟩
  | a :: x, b :: y => by
    obtain ⟨h1, h2⟩ := comL_le x y
    unfold comL
    rw [List.length_cons, List.length_cons]
    split <;> omega
theorem comL_lt : ∀ (x y : List UInt8) (i : Nat), i < comL x y → x.getD i 0 = y.getD i 0
  | [], y, i, h => absurd h (Nat.not_lt_zero _)
  | a :: x, [], i, h => absurd h (Nat.not_lt_zero _)
  | a :: x, b :: y, i, h => by
    unfold comL at h
    by_cases e : a = b
    · subst e
      rw [if_pos rfl] at h
      cases i with
      | zero => rfl
      | succ i => exact comL_lt x y i (by omega)
    · rw [if_neg e] at h
      exact absurd h (Nat.not_lt_zero _)
theorem comL_at : ∀ (x y : List UInt8), comL x y < x.length → comL x y < y.length → x.getD (comL x y) 0 ≠ y.getD (comL x y) 0
  | [], y, h, _ => absurd h (Nat.not_lt_zero _)
  | a :: x, [], _, h => absurd h (Nat.not_lt_zero _)
  | a :: x, b :: y, h, k => by
    unfold comL at h k ⊢
    by_cases e : a = b
    · rw [if_pos e] at h k ⊢
      rw [List.length_cons] at h k
      exact comL_at x y (by omega) (by omega)
    · rw [if_neg e]
      exact e
theorem comL_take : ∀ x y : List UInt8, x.take (comL x y) = y.take (comL x y)
  | [], y => by
    show [] = y.take 0
    rfl
  | a :: x, [] => rfl
  | a :: x, b :: y => by
    unfold comL
    by_cases e : a = b
    · rw [if_pos e, List.take_succ_cons, List.take_succ_cons, comL_take x y, e]
    · rw [if_neg e]
      rfl
theorem comL_full : ∀ x y : List UInt8, comL x y = x.length ↔ ∃ r, x ++ r = y
  | [], y => ⟨fun _ => ⟨y, rfl⟩, fun _ => rfl⟩
  | a :: x, [] => ⟨(fun h => by cases h), (fun ⟨r, h⟩ => by cases h)⟩
  | a :: x, b :: y => by
    unfold comL
    rw [List.length_cons]
    by_cases e : a = b
    · rw [if_pos e]
      subst e
      constructor
      · intro h
        obtain ⟨r, hr⟩ := (comL_full x y).1 (by omega)
        exact ⟨r, by rw [List.cons_append, hr]⟩
      · rintro ⟨r, hr⟩
        rw [List.cons_append] at hr
        injection hr with _ h2
        rw [(comL_full x y).2 ⟨r, h2⟩]
    · rw [if_neg e]
      constructor
      · intro h; cases h
      · rintro ⟨r, hr⟩
        rw [List.cons_append] at hr
        injection hr with h1 _
        exact absurd h1 e
/-- The key of a place. -/
def keyL (s : ByteArray) (xs : List ByteArray) : List UInt8 := s.data.toList ++ 1 :: encL xs
theorem keyL_pre {s t : ByteArray} {xs ys : List ByteArray} (hs : nameB s = true) (ht : nameB t = true) :
    (∃ r, keyL s xs ++ r = keyL t ys) ↔ (s = t ∧ xs.length ≤ ys.length ∧ ys.take xs.length = xs) := by
  unfold keyL
  constructor
  · rintro ⟨r, h⟩
    rw [List.append_assoc, List.cons_append] at h
    obtain ⟨h1, h2⟩ := key_cut (nameB_big hs) (nameB_big ht) h
    obtain ⟨h3, h4⟩ := enc_pre xs ys r h2
    exact ⟨ByteArray.ext (Array.ext' h1), h3, h4⟩
  · rintro ⟨rfl, h1, h2⟩
    refine ⟨encL (ys.drop xs.length), ?_⟩
    rw [List.append_assoc, List.cons_append, ← encL_app, ← h2, List.length_take, Nat.min_eq_left h1, List.take_append_drop]
theorem keyL_lt {s t : ByteArray} {xs ys : List ByteArray} (hs : nameB s = true) (ht : nameB t = true) :
    byteLt (keyL s xs) (keyL t ys) = if s = t then subsLt xs ys else byteLt s.data.toList t.data.toList := by
  unfold keyL
  rw [key_order _ _ _ _ (nameB_big hs) (nameB_big ht), encL_lt]
  by_cases e : s = t
  · rw [if_pos e, if_pos (by rw [e])]
  · rw [if_neg e, if_neg (fun h => e (ByteArray.ext (Array.ext' h)))]
theorem occ_one (l : List UInt8) (j : Nat) : Lib.occAt l [1] j = ((l.drop j).head? == some 1) := by
  unfold Lib.occAt
  cases l.drop j with
  | nil => rfl
  | cons a t =>
    by_cases e : a = 1
    · subst e
      rfl
    · have e1 : ((1 : UInt8) == a) = false := by rw [beq_eq_false_iff_ne]; exact Ne.symm e
      have e2 : (some a == some (1 : UInt8)) = false := by rw [beq_eq_false_iff_ne]; exact fun h => e (by injection h)
      show (((1 : UInt8) == a) && _) = (some a == some (1 : UInt8))
      rw [e1, e2]
      rfl
theorem cut_key {N x : List UInt8} (hN : big1 N) : Lib.cut (N ++ 1 :: x) [1] = (N, x, true) := by
  have hi : Lib.index (N ++ 1 :: x) [1] = (N.length : Int) := by
    refine Lib.index_first (by rw [List.length_append]; omega) ?_ ?_
    · rw [occ_one, List.drop_left]
      rfl
    · intro j hj
      rw [occ_one, List.drop_append_of_le_length (by omega), List.drop_eq_getElem_cons hj]
      have := one_ne (hN N[j] (List.getElem_mem hj))
      show (some N[j] == some (1 : UInt8)) = false
      rw [beq_eq_false_iff_ne]
      exact fun h => this (by injection h)
  unfold Lib.cut
  rw [hi, if_pos (by omega), Int.toNat_natCast, List.take_left, List.length_singleton]
  congr 2
  rw [show N ++ 1 :: x = (N ++ [1]) ++ x by simp, show N.length + 1 = (N ++ [1]).length by simp, List.drop_left]
end

section
open Go.RowKit
set_option linter.unusedVariables false

noncomputable def wga0 : List (FuncId × Entry) := (73, E_l03Where) :: dab0
noncomputable def q_DrawKey (br : Br) (n : Nat) (l : List PV) := evB br Tryz.prog wga0 [] LO0 Tryz.f27 [cP (.sl n l)]
noncomputable abbrev keyV (n : Nat) (l : List PV) : ByteArray × List ByteArray := (whereV [] n l 0).1
noncomputable def E_DrawKey : Entry := fun ivs => match ivs with
  | [.cv (.pv (.sl n l))] => [(wfB n l && decide (n ≤ 1048577), .tup [cS (keyV n l).1, cP (pL (keyV n l).2)], [])]
  | _ => []
noncomputable def wga1 : List (FuncId × Entry) := (74, E_locationOk) :: [(21, E_PutSubs)]
noncomputable def q_KeyOf (br : Br) (s : ByteArray) (xs : List ByteArray) := evB br Tryz.prog wga1 [] LO0 Tryz.f28 [cS s, cP (pL xs)]
noncomputable def E_KeyOf : Entry := fun ivs => match ivs with
  | [.cv (.pv (.str s)), .cv (.pv p)] => [(decide (s.size ≤ 1000000) && isL p && placeB s (asL p), cS (bs (keyL s (asL p))), []), (decide (s.size ≤ 1000000) && isL p, cS ⟨#[]⟩, [])]
  | _ => []
noncomputable def E_Cut : Entry := fun ivs => match ivs with
  | [.cv (.pv (.str s)), .cv (.pv (.str t))] => [(decide (s.size ≤ 1000000), .tup [cS (bs (Lib.cut s.data.toList t.data.toList).1), cS (bs (Lib.cut s.data.toList t.data.toList).2.1), cB (Lib.cut s.data.toList t.data.toList).2.2], [])]
  | _ => []
noncomputable def wga2 : List (FuncId × Entry) := (77, E_Cut) :: (22, E_GetSubs) :: [(78, E_INameOk)]
noncomputable def q_KeyPlace (br : Br) (a : ByteArray) := evB br Tryz.prog wga2 [] LO0 Tryz.f31 [cS a]
def isKey (a : ByteArray) : Prop := ∃ x : ByteArray × List ByteArray, a.data.toList = keyL x.1 x.2 ∧ placeB x.1 x.2 = true
/-- The place of a key. -/
noncomputable def decK (a : ByteArray) : ByteArray × List ByteArray := @Classical.epsilon _ ⟨(⟨#[]⟩, [])⟩ fun x : ByteArray × List ByteArray => a.data.toList = keyL x.1 x.2 ∧ placeB x.1 x.2 = true
noncomputable def E_KeyPlace : Entry := fun ivs => match ivs with
  | [.cv (.pv (.str a))] => [(decide (a.size ≤ 1000000) && holds (isKey a), .tup [cS (decK a).1, cP (pL (decK a).2), cB true], [])]
  | _ => []
abbrev lp_Shared : List (Nat × List Nat × List Nat) := [(2, [0, 1, 5], [5])]
noncomputable def LO_Shared : LoopT := fun _ ls => match ls with
  | [(.pv (.str a), none), (.pv (.str b), none), (.pv (.int .i64 i), none)] => [((i == 0) && decide (a.size ≤ 1000000), .exit 0, [aI (comL a.data.toList b.data.toList)])]
  | _ => []
noncomputable def r_Shared (br : Br) (a b : ByteArray) (i : Int) := rdB br Tryz.prog [] lp_Shared LO_Shared Tryz.f32 2 [] [aS a, aS b, aI i]
noncomputable def q_Shared (br : Br) (a b : ByteArray) := evB br Tryz.prog [] lp_Shared LO_Shared Tryz.f32 [cS a, cS b]
noncomputable def E_Shared : Entry := fun ivs => match ivs with
  | [.cv (.pv (.str a)), .cv (.pv (.str b))] => [(decide (a.size ≤ 1000000), cI (comL a.data.toList b.data.toList), [])]
  | _ => []
noncomputable def q_long2 (br : Br) (n m : Nat) (l k : List PV) := evB br Tryz.prog [] [] LO0 Tryz.f26 [cP (.sl n l), cP (.sl m k)]
def E_long2 : Entry := fun ivs => match ivs with
  | [.cv (.pv (.sl n l)), .cv (.pv (.sl m k))] => [(true, cB (decide ((n : Int) > 1048576) || decide ((m : Int) > 1048576)), [])]
  | _ => []
noncomputable def lab5 : List (FuncId × Entry) := (26, E_long2) :: (27, E_DrawKey) :: (28, E_KeyOf) :: (29, E_l02Name) :: (30, E_l02Subs) :: (31, E_KeyPlace) :: (32, E_Shared) :: (33, E_l02Same) :: [(34, E_l02SubsBefore)]
noncomputable def q_fc (br : Br) (n m : Nat) (l k : List PV) := evB br Tryz.prog lab5 [] LO0 Tryz.f5 [cP (.sl n l), cP (.sl m k)]
end

section
set_option linter.unusedVariables false
set_option maxRecDepth 100000
theorem q_Shared_eq (a : ByteArray) (b : ByteArray) : q_Shared brC a b =
 brC (0 == 0 && decide (ByteArray.size a ≤ 1000000))
  (some ((IV.cv (CV.pv (PV.int IntKind.i64 (↑(comL (Array.toList (ByteArray.data a)) (Array.toList (ByteArray.data b))) : Int))), [])))
  (none) := by kernel_rfl
theorem q_fc_eq (n : Nat) (m : Nat) (l : List PV) (k : List PV) : q_fc brC n m l k =
 brC (decide ((↑n : Int) > 1048576) || decide ((↑m : Int) > 1048576))
  (some ((IV.cv (CV.pv (PV.bool true)), [])))
  (brC (wfB n l && decide (n ≤ 1048577))
    (brC (wfB m k && decide (m ≤ 1048577))
      (brC (decide (ByteArray.size (Prod.fst (keyV n l)) ≤ 1000000) && isL (PV.sl (List.length (Prod.snd (keyV n l))) (List.map PV.str (Prod.snd (keyV n l)))) && placeB (Prod.fst (keyV n l)) (asL (PV.sl (List.length (Prod.snd (keyV n l))) (List.map PV.str (Prod.snd (keyV n l))))))
        (brC (decide (ByteArray.size (Prod.fst (keyV m k)) ≤ 1000000) && isL (PV.sl (List.length (Prod.snd (keyV m k))) (List.map PV.str (Prod.snd (keyV m k)))) && placeB (Prod.fst (keyV m k)) (asL (PV.sl (List.length (Prod.snd (keyV m k))) (List.map PV.str (Prod.snd (keyV m k))))))
          (brC (ByteArray.toList (bs (keyL (Prod.fst (keyV n l)) (asL (PV.sl (List.length (Prod.snd (keyV n l))) (List.map PV.str (Prod.snd (keyV n l))))))) == [])
            (brC (decide (ByteArray.size (Prod.fst (keyV n l)) ≤ 1000000))
              (brC (nameB (Prod.fst (keyV n l)))
                (brC (isL (PV.sl (List.length (Prod.snd (keyV n l))) (List.map PV.str (Prod.snd (keyV n l)))))
                  (some ((IV.cv (CV.pv (PV.bool ((ByteArray.toList (bs (keyL (Prod.fst (keyV n l)) (asL (PV.sl (List.length (Prod.snd (keyV n l))) (List.map PV.str (Prod.snd (keyV n l))))))) == []) == !subsB (asL (PV.sl (List.length (Prod.snd (keyV n l))) (List.map PV.str (Prod.snd (keyV n l)))))))), [])))
                  (none))
                (some ((IV.cv (CV.pv (PV.bool ((ByteArray.toList (bs (keyL (Prod.fst (keyV n l)) (asL (PV.sl (List.length (Prod.snd (keyV n l))) (List.map PV.str (Prod.snd (keyV n l))))))) == []) == !false))), []))))
              (none))
            (brC (ByteArray.toList (bs (keyL (Prod.fst (keyV m k)) (asL (PV.sl (List.length (Prod.snd (keyV m k))) (List.map PV.str (Prod.snd (keyV m k))))))) == [])
              (brC (decide (ByteArray.size (Prod.fst (keyV n l)) ≤ 1000000))
                (brC (nameB (Prod.fst (keyV n l)))
                  (brC (isL (PV.sl (List.length (Prod.snd (keyV n l))) (List.map PV.str (Prod.snd (keyV n l)))))
                    (some ((IV.cv (CV.pv (PV.bool ((ByteArray.toList (bs (keyL (Prod.fst (keyV n l)) (asL (PV.sl (List.length (Prod.snd (keyV n l))) (List.map PV.str (Prod.snd (keyV n l))))))) == []) == !subsB (asL (PV.sl (List.length (Prod.snd (keyV n l))) (List.map PV.str (Prod.snd (keyV n l)))))))), [])))
                    (none))
                  (some ((IV.cv (CV.pv (PV.bool ((ByteArray.toList (bs (keyL (Prod.fst (keyV n l)) (asL (PV.sl (List.length (Prod.snd (keyV n l))) (List.map PV.str (Prod.snd (keyV n l))))))) == []) == !false))), []))))
                (none))
              (brC (decide (ByteArray.size (bs (keyL (Prod.fst (keyV n l)) (asL (PV.sl (List.length (Prod.snd (keyV n l))) (List.map PV.str (Prod.snd (keyV n l))))))) ≤ 1000000) && holds (isKey (bs (keyL (Prod.fst (keyV n l)) (asL (PV.sl (List.length (Prod.snd (keyV n l))) (List.map PV.str (Prod.snd (keyV n l)))))))))
                (brC (decide (ByteArray.size (bs (keyL (Prod.fst (keyV n l)) (asL (PV.sl (List.length (Prod.snd (keyV n l))) (List.map PV.str (Prod.snd (keyV n l))))))) ≤ 1000000))
                  (brC (!ByteArray.toList (Prod.fst (decK (bs (keyL (Prod.fst (keyV n l)) (asL (PV.sl (List.length (Prod.snd (keyV n l))) (List.map PV.str (Prod.snd (keyV n l))))))))) == ByteArray.toList (Prod.fst (keyV n l)))
                    (some ((IV.cv (CV.pv (PV.bool false)), [])))
                    (brC (isL (PV.sl (List.length (Prod.snd (decK (bs (keyL (Prod.fst (keyV n l)) (asL (PV.sl (List.length (Prod.snd (keyV n l))) (List.map PV.str (Prod.snd (keyV n l)))))))))) (List.map PV.str (Prod.snd (decK (bs (keyL (Prod.fst (keyV n l)) (asL (PV.sl (List.length (Prod.snd (keyV n l))) (List.map PV.str (Prod.snd (keyV n l))))))))))) && isL (PV.sl (List.length (Prod.snd (keyV n l))) (List.map PV.str (Prod.snd (keyV n l)))))
                      (brC (!sameX (asL (PV.sl (List.length (Prod.snd (decK (bs (keyL (Prod.fst (keyV n l)) (asL (PV.sl (List.length (Prod.snd (keyV n l))) (List.map PV.str (Prod.snd (keyV n l)))))))))) (List.map PV.str (Prod.snd (decK (bs (keyL (Prod.fst (keyV n l)) (asL (PV.sl (List.length (Prod.snd (keyV n l))) (List.map PV.str (Prod.snd (keyV n l)))))))))))) (asL (PV.sl (List.length (Prod.snd (keyV n l))) (List.map PV.str (Prod.snd (keyV n l))))))
                        (some ((IV.cv (CV.pv (PV.bool false)), [])))
                        (brC (decide ((↑(comL (Array.toList (ByteArray.data (bs (keyL (Prod.fst (keyV n l)) (asL (PV.sl (List.length (Prod.snd (keyV n l))) (List.map PV.str (Prod.snd (keyV n l))))))))) (Array.toList (ByteArray.data (bs (keyL (Prod.fst (keyV m k)) (asL (PV.sl (List.length (Prod.snd (keyV m k))) (List.map PV.str (Prod.snd (keyV m k)))))))))) : Int) > (↑(ByteArray.size (bs (keyL (Prod.fst (keyV n l)) (asL (PV.sl (List.length (Prod.snd (keyV n l))) (List.map PV.str (Prod.snd (keyV n l)))))))) : Int)))
                          (some ((IV.cv (CV.pv (PV.bool false)), [])))
                          (brC (decide ((↑(comL (Array.toList (ByteArray.data (bs (keyL (Prod.fst (keyV n l)) (asL (PV.sl (List.length (Prod.snd (keyV n l))) (List.map PV.str (Prod.snd (keyV n l))))))))) (Array.toList (ByteArray.data (bs (keyL (Prod.fst (keyV m k)) (asL (PV.sl (List.length (Prod.snd (keyV m k))) (List.map PV.str (Prod.snd (keyV m k)))))))))) : Int) > (↑(ByteArray.size (bs (keyL (Prod.fst (keyV m k)) (asL (PV.sl (List.length (Prod.snd (keyV m k))) (List.map PV.str (Prod.snd (keyV m k)))))))) : Int)))
                            (some ((IV.cv (CV.pv (PV.bool false)), [])))
                            (brC (decide (0 ≤ 0) && decide (0 ≤ (↑(comL (Array.toList (ByteArray.data (bs (keyL (Prod.fst (keyV n l)) (asL (PV.sl (List.length (Prod.snd (keyV n l))) (List.map PV.str (Prod.snd (keyV n l))))))))) (Array.toList (ByteArray.data (bs (keyL (Prod.fst (keyV m k)) (asL (PV.sl (List.length (Prod.snd (keyV m k))) (List.map PV.str (Prod.snd (keyV m k)))))))))) : Int)) && decide ((↑(comL (Array.toList (ByteArray.data (bs (keyL (Prod.fst (keyV n l)) (asL (PV.sl (List.length (Prod.snd (keyV n l))) (List.map PV.str (Prod.snd (keyV n l))))))))) (Array.toList (ByteArray.data (bs (keyL (Prod.fst (keyV m k)) (asL (PV.sl (List.length (Prod.snd (keyV m k))) (List.map PV.str (Prod.snd (keyV m k)))))))))) : Int) ≤ (↑(ByteArray.size (bs (keyL (Prod.fst (keyV n l)) (asL (PV.sl (List.length (Prod.snd (keyV n l))) (List.map PV.str (Prod.snd (keyV n l)))))))) : Int)) && true && true)
                              (brC (decide (0 ≤ 0) && decide (0 ≤ (↑(comL (Array.toList (ByteArray.data (bs (keyL (Prod.fst (keyV n l)) (asL (PV.sl (List.length (Prod.snd (keyV n l))) (List.map PV.str (Prod.snd (keyV n l))))))))) (Array.toList (ByteArray.data (bs (keyL (Prod.fst (keyV m k)) (asL (PV.sl (List.length (Prod.snd (keyV m k))) (List.map PV.str (Prod.snd (keyV m k)))))))))) : Int)) && decide ((↑(comL (Array.toList (ByteArray.data (bs (keyL (Prod.fst (keyV n l)) (asL (PV.sl (List.length (Prod.snd (keyV n l))) (List.map PV.str (Prod.snd (keyV n l))))))))) (Array.toList (ByteArray.data (bs (keyL (Prod.fst (keyV m k)) (asL (PV.sl (List.length (Prod.snd (keyV m k))) (List.map PV.str (Prod.snd (keyV m k)))))))))) : Int) ≤ (↑(ByteArray.size (bs (keyL (Prod.fst (keyV m k)) (asL (PV.sl (List.length (Prod.snd (keyV m k))) (List.map PV.str (Prod.snd (keyV m k)))))))) : Int)) && true && true)
                                (brC (!ByteArray.toList (ByteArray.extract (bs (keyL (Prod.fst (keyV n l)) (asL (PV.sl (List.length (Prod.snd (keyV n l))) (List.map PV.str (Prod.snd (keyV n l))))))) 0 (Int.toNat (↑(comL (Array.toList (ByteArray.data (bs (keyL (Prod.fst (keyV n l)) (asL (PV.sl (List.length (Prod.snd (keyV n l))) (List.map PV.str (Prod.snd (keyV n l))))))))) (Array.toList (ByteArray.data (bs (keyL (Prod.fst (keyV m k)) (asL (PV.sl (List.length (Prod.snd (keyV m k))) (List.map PV.str (Prod.snd (keyV m k)))))))))) : Int))) == ByteArray.toList (ByteArray.extract (bs (keyL (Prod.fst (keyV m k)) (asL (PV.sl (List.length (Prod.snd (keyV m k))) (List.map PV.str (Prod.snd (keyV m k))))))) 0 (Int.toNat (↑(comL (Array.toList (ByteArray.data (bs (keyL (Prod.fst (keyV n l)) (asL (PV.sl (List.length (Prod.snd (keyV n l))) (List.map PV.str (Prod.snd (keyV n l))))))))) (Array.toList (ByteArray.data (bs (keyL (Prod.fst (keyV m k)) (asL (PV.sl (List.length (Prod.snd (keyV m k))) (List.map PV.str (Prod.snd (keyV m k)))))))))) : Int))))
                                  (some ((IV.cv (CV.pv (PV.bool false)), [])))
                                  (brC (decide ((↑(comL (Array.toList (ByteArray.data (bs (keyL (Prod.fst (keyV n l)) (asL (PV.sl (List.length (Prod.snd (keyV n l))) (List.map PV.str (Prod.snd (keyV n l))))))))) (Array.toList (ByteArray.data (bs (keyL (Prod.fst (keyV m k)) (asL (PV.sl (List.length (Prod.snd (keyV m k))) (List.map PV.str (Prod.snd (keyV m k)))))))))) : Int) < (↑(ByteArray.size (bs (keyL (Prod.fst (keyV n l)) (asL (PV.sl (List.length (Prod.snd (keyV n l))) (List.map PV.str (Prod.snd (keyV n l)))))))) : Int)))
                                    (brC (decide ((↑(comL (Array.toList (ByteArray.data (bs (keyL (Prod.fst (keyV n l)) (asL (PV.sl (List.length (Prod.snd (keyV n l))) (List.map PV.str (Prod.snd (keyV n l))))))))) (Array.toList (ByteArray.data (bs (keyL (Prod.fst (keyV m k)) (asL (PV.sl (List.length (Prod.snd (keyV m k))) (List.map PV.str (Prod.snd (keyV m k)))))))))) : Int) < (↑(ByteArray.size (bs (keyL (Prod.fst (keyV m k)) (asL (PV.sl (List.length (Prod.snd (keyV m k))) (List.map PV.str (Prod.snd (keyV m k)))))))) : Int)))
                                      (brC (decide (0 ≤ (↑(comL (Array.toList (ByteArray.data (bs (keyL (Prod.fst (keyV n l)) (asL (PV.sl (List.length (Prod.snd (keyV n l))) (List.map PV.str (Prod.snd (keyV n l))))))))) (Array.toList (ByteArray.data (bs (keyL (Prod.fst (keyV m k)) (asL (PV.sl (List.length (Prod.snd (keyV m k))) (List.map PV.str (Prod.snd (keyV m k)))))))))) : Int)) && decide ((↑(comL (Array.toList (ByteArray.data (bs (keyL (Prod.fst (keyV n l)) (asL (PV.sl (List.length (Prod.snd (keyV n l))) (List.map PV.str (Prod.snd (keyV n l))))))))) (Array.toList (ByteArray.data (bs (keyL (Prod.fst (keyV m k)) (asL (PV.sl (List.length (Prod.snd (keyV m k))) (List.map PV.str (Prod.snd (keyV m k)))))))))) : Int) < (↑(ByteArray.size (bs (keyL (Prod.fst (keyV n l)) (asL (PV.sl (List.length (Prod.snd (keyV n l))) (List.map PV.str (Prod.snd (keyV n l)))))))) : Int)) && true)
                                        (brC (decide (0 ≤ (↑(comL (Array.toList (ByteArray.data (bs (keyL (Prod.fst (keyV n l)) (asL (PV.sl (List.length (Prod.snd (keyV n l))) (List.map PV.str (Prod.snd (keyV n l))))))))) (Array.toList (ByteArray.data (bs (keyL (Prod.fst (keyV m k)) (asL (PV.sl (List.length (Prod.snd (keyV m k))) (List.map PV.str (Prod.snd (keyV m k)))))))))) : Int)) && decide ((↑(comL (Array.toList (ByteArray.data (bs (keyL (Prod.fst (keyV n l)) (asL (PV.sl (List.length (Prod.snd (keyV n l))) (List.map PV.str (Prod.snd (keyV n l))))))))) (Array.toList (ByteArray.data (bs (keyL (Prod.fst (keyV m k)) (asL (PV.sl (List.length (Prod.snd (keyV m k))) (List.map PV.str (Prod.snd (keyV m k)))))))))) : Int) < (↑(ByteArray.size (bs (keyL (Prod.fst (keyV m k)) (asL (PV.sl (List.length (Prod.snd (keyV m k))) (List.map PV.str (Prod.snd (keyV m k)))))))) : Int)) && true)
                                          (brC ((↑(UInt8.toNat (List.getD (Array.toList (ByteArray.data (bs (keyL (Prod.fst (keyV n l)) (asL (PV.sl (List.length (Prod.snd (keyV n l))) (List.map PV.str (Prod.snd (keyV n l))))))))) (Int.toNat (↑(comL (Array.toList (ByteArray.data (bs (keyL (Prod.fst (keyV n l)) (asL (PV.sl (List.length (Prod.snd (keyV n l))) (List.map PV.str (Prod.snd (keyV n l))))))))) (Array.toList (ByteArray.data (bs (keyL (Prod.fst (keyV m k)) (asL (PV.sl (List.length (Prod.snd (keyV m k))) (List.map PV.str (Prod.snd (keyV m k)))))))))) : Int)) 0)) : Int) == (↑(UInt8.toNat (List.getD (Array.toList (ByteArray.data (bs (keyL (Prod.fst (keyV m k)) (asL (PV.sl (List.length (Prod.snd (keyV m k))) (List.map PV.str (Prod.snd (keyV m k))))))))) (Int.toNat (↑(comL (Array.toList (ByteArray.data (bs (keyL (Prod.fst (keyV n l)) (asL (PV.sl (List.length (Prod.snd (keyV n l))) (List.map PV.str (Prod.snd (keyV n l))))))))) (Array.toList (ByteArray.data (bs (keyL (Prod.fst (keyV m k)) (asL (PV.sl (List.length (Prod.snd (keyV m k))) (List.map PV.str (Prod.snd (keyV m k)))))))))) : Int)) 0)) : Int))
                                            (some ((IV.cv (CV.pv (PV.bool false)), [])))
                                            (brC (Op.bytesLess (ByteArray.toList (Prod.fst (keyV n l))) (ByteArray.toList (Prod.fst (keyV m k))))
                                              (brC (ByteArray.toList (Prod.fst (keyV n l)) == ByteArray.toList (Prod.fst (keyV m k)))
                                                (brC (decide ((↑(List.length (Prod.snd (keyV m k))) : Int) ≥ (↑(List.length (Prod.snd (keyV n l))) : Int)))
                                                  (brC (decide (0 ≤ 0) && decide (0 ≤ (↑(List.length (Prod.snd (keyV n l))) : Int)) && decide ((↑(List.length (Prod.snd (keyV n l))) : Int) ≤ (↑(List.length (Prod.snd (keyV m k))) : Int)) && true && true)
                                                    (brC (isL (PV.sl (Int.toNat (↑(List.length (Prod.snd (keyV n l))) : Int) - 0) (List.take ((Int.toNat (↑(List.length (Prod.snd (keyV n l))) : Int) - 0) * 1) (List.drop (0 * 1) (List.map PV.str (Prod.snd (keyV m k)))))) && isL (PV.sl (List.length (Prod.snd (keyV n l))) (List.map PV.str (Prod.snd (keyV n l)))))
                                                      (brC (Op.bytesLess (ByteArray.toList (bs (keyL (Prod.fst (keyV n l)) (asL (PV.sl (List.length (Prod.snd (keyV n l))) (List.map PV.str (Prod.snd (keyV n l)))))))) (ByteArray.toList (bs (keyL (Prod.fst (keyV m k)) (asL (PV.sl (List.length (Prod.snd (keyV m k))) (List.map PV.str (Prod.snd (keyV m k)))))))) == true)
                                                        (some ((IV.cv (CV.pv (PV.bool (((↑(comL (Array.toList (ByteArray.data (bs (keyL (Prod.fst (keyV n l)) (asL (PV.sl (List.length (Prod.snd (keyV n l))) (List.map PV.str (Prod.snd (keyV n l))))))))) (Array.toList (ByteArray.data (bs (keyL (Prod.fst (keyV m k)) (asL (PV.sl (List.length (Prod.snd (keyV m k))) (List.map PV.str (Prod.snd (keyV m k)))))))))) : Int) == (↑(ByteArray.size (bs (keyL (Prod.fst (keyV n l)) (asL (PV.sl (List.length (Prod.snd (keyV n l))) (List.map PV.str (Prod.snd (keyV n l)))))))) : Int)) == sameX (asL (PV.sl (Int.toNat (↑(List.length (Prod.snd (keyV n l))) : Int) - 0) (List.take ((Int.toNat (↑(List.length (Prod.snd (keyV n l))) : Int) - 0) * 1) (List.drop (0 * 1) (List.map PV.str (Prod.snd (keyV m k))))))) (asL (PV.sl (List.length (Prod.snd (keyV n l))) (List.map PV.str (Prod.snd (keyV n l)))))))), [])))
                                                        (some ((IV.cv (CV.pv (PV.bool false)), []))))
                                                      (none))
                                                    (none))
                                                  (brC (Op.bytesLess (ByteArray.toList (bs (keyL (Prod.fst (keyV n l)) (asL (PV.sl (List.length (Prod.snd (keyV n l))) (List.map PV.str (Prod.snd (keyV n l)))))))) (ByteArray.toList (bs (keyL (Prod.fst (keyV m k)) (asL (PV.sl (List.length (Prod.snd (keyV m k))) (List.map PV.str (Prod.snd (keyV m k)))))))) == true)
                                                    (some ((IV.cv (CV.pv (PV.bool (((↑(comL (Array.toList (ByteArray.data (bs (keyL (Prod.fst (keyV n l)) (asL (PV.sl (List.length (Prod.snd (keyV n l))) (List.map PV.str (Prod.snd (keyV n l))))))))) (Array.toList (ByteArray.data (bs (keyL (Prod.fst (keyV m k)) (asL (PV.sl (List.length (Prod.snd (keyV m k))) (List.map PV.str (Prod.snd (keyV m k)))))))))) : Int) == (↑(ByteArray.size (bs (keyL (Prod.fst (keyV n l)) (asL (PV.sl (List.length (Prod.snd (keyV n l))) (List.map PV.str (Prod.snd (keyV n l)))))))) : Int)) == false))), [])))
                                                    (some ((IV.cv (CV.pv (PV.bool false)), [])))))
                                                (brC (Op.bytesLess (ByteArray.toList (bs (keyL (Prod.fst (keyV n l)) (asL (PV.sl (List.length (Prod.snd (keyV n l))) (List.map PV.str (Prod.snd (keyV n l)))))))) (ByteArray.toList (bs (keyL (Prod.fst (keyV m k)) (asL (PV.sl (List.length (Prod.snd (keyV m k))) (List.map PV.str (Prod.snd (keyV m k)))))))) == true)
                                                  (some ((IV.cv (CV.pv (PV.bool (((↑(comL (Array.toList (ByteArray.data (bs (keyL (Prod.fst (keyV n l)) (asL (PV.sl (List.length (Prod.snd (keyV n l))) (List.map PV.str (Prod.snd (keyV n l))))))))) (Array.toList (ByteArray.data (bs (keyL (Prod.fst (keyV m k)) (asL (PV.sl (List.length (Prod.snd (keyV m k))) (List.map PV.str (Prod.snd (keyV m k)))))))))) : Int) == (↑(ByteArray.size (bs (keyL (Prod.fst (keyV n l)) (asL (PV.sl (List.length (Prod.snd (keyV n l))) (List.map PV.str (Prod.snd (keyV n l)))))))) : Int)) == false))), [])))
                                                  (some ((IV.cv (CV.pv (PV.bool false)), [])))))
                                              (brC (ByteArray.toList (Prod.fst (keyV n l)) == ByteArray.toList (Prod.fst (keyV m k)))
                                                (brC (isL (PV.sl (List.length (Prod.snd (keyV n l))) (List.map PV.str (Prod.snd (keyV n l)))) && isL (PV.sl (List.length (Prod.snd (keyV m k))) (List.map PV.str (Prod.snd (keyV m k)))))
                                                  (brC (ByteArray.toList (Prod.fst (keyV n l)) == ByteArray.toList (Prod.fst (keyV m k)))
                                                    (brC (decide ((↑(List.length (Prod.snd (keyV m k))) : Int) ≥ (↑(List.length (Prod.snd (keyV n l))) : Int)))
                                                      (brC (decide (0 ≤ 0) && decide (0 ≤ (↑(List.length (Prod.snd (keyV n l))) : Int)) && decide ((↑(List.length (Prod.snd (keyV n l))) : Int) ≤ (↑(List.length (Prod.snd (keyV m k))) : Int)) && true && true)
                                                        (brC (isL (PV.sl (Int.toNat (↑(List.length (Prod.snd (keyV n l))) : Int) - 0) (List.take ((Int.toNat (↑(List.length (Prod.snd (keyV n l))) : Int) - 0) * 1) (List.drop (0 * 1) (List.map PV.str (Prod.snd (keyV m k)))))) && isL (PV.sl (List.length (Prod.snd (keyV n l))) (List.map PV.str (Prod.snd (keyV n l)))))
                                                          (brC (Op.bytesLess (ByteArray.toList (bs (keyL (Prod.fst (keyV n l)) (asL (PV.sl (List.length (Prod.snd (keyV n l))) (List.map PV.str (Prod.snd (keyV n l)))))))) (ByteArray.toList (bs (keyL (Prod.fst (keyV m k)) (asL (PV.sl (List.length (Prod.snd (keyV m k))) (List.map PV.str (Prod.snd (keyV m k)))))))) == subsLt (asL (PV.sl (List.length (Prod.snd (keyV n l))) (List.map PV.str (Prod.snd (keyV n l))))) (asL (PV.sl (List.length (Prod.snd (keyV m k))) (List.map PV.str (Prod.snd (keyV m k))))))
                                                            (some ((IV.cv (CV.pv (PV.bool (((↑(comL (Array.toList (ByteArray.data (bs (keyL (Prod.fst (keyV n l)) (asL (PV.sl (List.length (Prod.snd (keyV n l))) (List.map PV.str (Prod.snd (keyV n l))))))))) (Array.toList (ByteArray.data (bs (keyL (Prod.fst (keyV m k)) (asL (PV.sl (List.length (Prod.snd (keyV m k))) (List.map PV.str (Prod.snd (keyV m k)))))))))) : Int) == (↑(ByteArray.size (bs (keyL (Prod.fst (keyV n l)) (asL (PV.sl (List.length (Prod.snd (keyV n l))) (List.map PV.str (Prod.snd (keyV n l)))))))) : Int)) == sameX (asL (PV.sl (Int.toNat (↑(List.length (Prod.snd (keyV n l))) : Int) - 0) (List.take ((Int.toNat (↑(List.length (Prod.snd (keyV n l))) : Int) - 0) * 1) (List.drop (0 * 1) (List.map PV.str (Prod.snd (keyV m k))))))) (asL (PV.sl (List.length (Prod.snd (keyV n l))) (List.map PV.str (Prod.snd (keyV n l)))))))), [])))
                                                            (some ((IV.cv (CV.pv (PV.bool false)), []))))
                                                          (none))
                                                        (none))
                                                      (brC (Op.bytesLess (ByteArray.toList (bs (keyL (Prod.fst (keyV n l)) (asL (PV.sl (List.length (Prod.snd (keyV n l))) (List.map PV.str (Prod.snd (keyV n l)))))))) (ByteArray.toList (bs (keyL (Prod.fst (keyV m k)) (asL (PV.sl (List.length (Prod.snd (keyV m k))) (List.map PV.str (Prod.snd (keyV m k)))))))) == subsLt (asL (PV.sl (List.length (Prod.snd (keyV n l))) (List.map PV.str (Prod.snd (keyV n l))))) (asL (PV.sl (List.length (Prod.snd (keyV m k))) (List.map PV.str (Prod.snd (keyV m k))))))
                                                        (some ((IV.cv (CV.pv (PV.bool (((↑(comL (Array.toList (ByteArray.data (bs (keyL (Prod.fst (keyV n l)) (asL (PV.sl (List.length (Prod.snd (keyV n l))) (List.map PV.str (Prod.snd (keyV n l))))))))) (Array.toList (ByteArray.data (bs (keyL (Prod.fst (keyV m k)) (asL (PV.sl (List.length (Prod.snd (keyV m k))) (List.map PV.str (Prod.snd (keyV m k)))))))))) : Int) == (↑(ByteArray.size (bs (keyL (Prod.fst (keyV n l)) (asL (PV.sl (List.length (Prod.snd (keyV n l))) (List.map PV.str (Prod.snd (keyV n l)))))))) : Int)) == false))), [])))
                                                        (some ((IV.cv (CV.pv (PV.bool false)), [])))))
                                                    (brC (Op.bytesLess (ByteArray.toList (bs (keyL (Prod.fst (keyV n l)) (asL (PV.sl (List.length (Prod.snd (keyV n l))) (List.map PV.str (Prod.snd (keyV n l)))))))) (ByteArray.toList (bs (keyL (Prod.fst (keyV m k)) (asL (PV.sl (List.length (Prod.snd (keyV m k))) (List.map PV.str (Prod.snd (keyV m k)))))))) == subsLt (asL (PV.sl (List.length (Prod.snd (keyV n l))) (List.map PV.str (Prod.snd (keyV n l))))) (asL (PV.sl (List.length (Prod.snd (keyV m k))) (List.map PV.str (Prod.snd (keyV m k))))))
                                                      (some ((IV.cv (CV.pv (PV.bool (((↑(comL (Array.toList (ByteArray.data (bs (keyL (Prod.fst (keyV n l)) (asL (PV.sl (List.length (Prod.snd (keyV n l))) (List.map PV.str (Prod.snd (keyV n l))))))))) (Array.toList (ByteArray.data (bs (keyL (Prod.fst (keyV m k)) (asL (PV.sl (List.length (Prod.snd (keyV m k))) (List.map PV.str (Prod.snd (keyV m k)))))))))) : Int) == (↑(ByteArray.size (bs (keyL (Prod.fst (keyV n l)) (asL (PV.sl (List.length (Prod.snd (keyV n l))) (List.map PV.str (Prod.snd (keyV n l)))))))) : Int)) == false))), [])))
                                                      (some ((IV.cv (CV.pv (PV.bool false)), [])))))
                                                  (none))
                                                (brC (ByteArray.toList (Prod.fst (keyV n l)) == ByteArray.toList (Prod.fst (keyV m k)))
                                                  (brC (decide ((↑(List.length (Prod.snd (keyV m k))) : Int) ≥ (↑(List.length (Prod.snd (keyV n l))) : Int)))
                                                    (brC (decide (0 ≤ 0) && decide (0 ≤ (↑(List.length (Prod.snd (keyV n l))) : Int)) && decide ((↑(List.length (Prod.snd (keyV n l))) : Int) ≤ (↑(List.length (Prod.snd (keyV m k))) : Int)) && true && true)
                                                      (brC (isL (PV.sl (Int.toNat (↑(List.length (Prod.snd (keyV n l))) : Int) - 0) (List.take ((Int.toNat (↑(List.length (Prod.snd (keyV n l))) : Int) - 0) * 1) (List.drop (0 * 1) (List.map PV.str (Prod.snd (keyV m k)))))) && isL (PV.sl (List.length (Prod.snd (keyV n l))) (List.map PV.str (Prod.snd (keyV n l)))))
                                                        (brC (Op.bytesLess (ByteArray.toList (bs (keyL (Prod.fst (keyV n l)) (asL (PV.sl (List.length (Prod.snd (keyV n l))) (List.map PV.str (Prod.snd (keyV n l)))))))) (ByteArray.toList (bs (keyL (Prod.fst (keyV m k)) (asL (PV.sl (List.length (Prod.snd (keyV m k))) (List.map PV.str (Prod.snd (keyV m k)))))))) == false)
                                                          (some ((IV.cv (CV.pv (PV.bool (((↑(comL (Array.toList (ByteArray.data (bs (keyL (Prod.fst (keyV n l)) (asL (PV.sl (List.length (Prod.snd (keyV n l))) (List.map PV.str (Prod.snd (keyV n l))))))))) (Array.toList (ByteArray.data (bs (keyL (Prod.fst (keyV m k)) (asL (PV.sl (List.length (Prod.snd (keyV m k))) (List.map PV.str (Prod.snd (keyV m k)))))))))) : Int) == (↑(ByteArray.size (bs (keyL (Prod.fst (keyV n l)) (asL (PV.sl (List.length (Prod.snd (keyV n l))) (List.map PV.str (Prod.snd (keyV n l)))))))) : Int)) == sameX (asL (PV.sl (Int.toNat (↑(List.length (Prod.snd (keyV n l))) : Int) - 0) (List.take ((Int.toNat (↑(List.length (Prod.snd (keyV n l))) : Int) - 0) * 1) (List.drop (0 * 1) (List.map PV.str (Prod.snd (keyV m k))))))) (asL (PV.sl (List.length (Prod.snd (keyV n l))) (List.map PV.str (Prod.snd (keyV n l)))))))), [])))
                                                          (some ((IV.cv (CV.pv (PV.bool false)), []))))
                                                        (none))
                                                      (none))
                                                    (brC (Op.bytesLess (ByteArray.toList (bs (keyL (Prod.fst (keyV n l)) (asL (PV.sl (List.length (Prod.snd (keyV n l))) (List.map PV.str (Prod.snd (keyV n l)))))))) (ByteArray.toList (bs (keyL (Prod.fst (keyV m k)) (asL (PV.sl (List.length (Prod.snd (keyV m k))) (List.map PV.str (Prod.snd (keyV m k)))))))) == false)
                                                      (some ((IV.cv (CV.pv (PV.bool (((↑(comL (Array.toList (ByteArray.data (bs (keyL (Prod.fst (keyV n l)) (asL (PV.sl (List.length (Prod.snd (keyV n l))) (List.map PV.str (Prod.snd (keyV n l))))))))) (Array.toList (ByteArray.data (bs (keyL (Prod.fst (keyV m k)) (asL (PV.sl (List.length (Prod.snd (keyV m k))) (List.map PV.str (Prod.snd (keyV m k)))))))))) : Int) == (↑(ByteArray.size (bs (keyL (Prod.fst (keyV n l)) (asL (PV.sl (List.length (Prod.snd (keyV n l))) (List.map PV.str (Prod.snd (keyV n l)))))))) : Int)) == false))), [])))
                                                      (some ((IV.cv (CV.pv (PV.bool false)), [])))))
                                                  (brC (Op.bytesLess (ByteArray.toList (bs (keyL (Prod.fst (keyV n l)) (asL (PV.sl (List.length (Prod.snd (keyV n l))) (List.map PV.str (Prod.snd (keyV n l)))))))) (ByteArray.toList (bs (keyL (Prod.fst (keyV m k)) (asL (PV.sl (List.length (Prod.snd (keyV m k))) (List.map PV.str (Prod.snd (keyV m k)))))))) == false)
                                                    (some ((IV.cv (CV.pv (PV.bool (((↑(comL (Array.toList (ByteArray.data (bs (keyL (Prod.fst (keyV n l)) (asL (PV.sl (List.length (Prod.snd (keyV n l))) (List.map PV.str (Prod.snd (keyV n l))))))))) (Array.toList (ByteArray.data (bs (keyL (Prod.fst (keyV m k)) (asL (PV.sl (List.length (Prod.snd (keyV m k))) (List.map PV.str (Prod.snd (keyV m k)))))))))) : Int) == (↑(ByteArray.size (bs (keyL (Prod.fst (keyV n l)) (asL (PV.sl (List.length (Prod.snd (keyV n l))) (List.map PV.str (Prod.snd (keyV n l)))))))) : Int)) == false))), [])))
                                                    (some ((IV.cv (CV.pv (PV.bool false)), []))))))))
                                          (none))
                                        (none))
                                      (brC (Op.bytesLess (ByteArray.toList (Prod.fst (keyV n l))) (ByteArray.toList (Prod.fst (keyV m k))))
                                        (brC (ByteArray.toList (Prod.fst (keyV n l)) == ByteArray.toList (Prod.fst (keyV m k)))
                                          (brC (decide ((↑(List.length (Prod.snd (keyV m k))) : Int) ≥ (↑(List.length (Prod.snd (keyV n l))) : Int)))
                                            (brC (decide (0 ≤ 0) && decide (0 ≤ (↑(List.length (Prod.snd (keyV n l))) : Int)) && decide ((↑(List.length (Prod.snd (keyV n l))) : Int) ≤ (↑(List.length (Prod.snd (keyV m k))) : Int)) && true && true)
                                              (brC (isL (PV.sl (Int.toNat (↑(List.length (Prod.snd (keyV n l))) : Int) - 0) (List.take ((Int.toNat (↑(List.length (Prod.snd (keyV n l))) : Int) - 0) * 1) (List.drop (0 * 1) (List.map PV.str (Prod.snd (keyV m k)))))) && isL (PV.sl (List.length (Prod.snd (keyV n l))) (List.map PV.str (Prod.snd (keyV n l)))))
                                                (brC (Op.bytesLess (ByteArray.toList (bs (keyL (Prod.fst (keyV n l)) (asL (PV.sl (List.length (Prod.snd (keyV n l))) (List.map PV.str (Prod.snd (keyV n l)))))))) (ByteArray.toList (bs (keyL (Prod.fst (keyV m k)) (asL (PV.sl (List.length (Prod.snd (keyV m k))) (List.map PV.str (Prod.snd (keyV m k)))))))) == true)
                                                  (some ((IV.cv (CV.pv (PV.bool (((↑(comL (Array.toList (ByteArray.data (bs (keyL (Prod.fst (keyV n l)) (asL (PV.sl (List.length (Prod.snd (keyV n l))) (List.map PV.str (Prod.snd (keyV n l))))))))) (Array.toList (ByteArray.data (bs (keyL (Prod.fst (keyV m k)) (asL (PV.sl (List.length (Prod.snd (keyV m k))) (List.map PV.str (Prod.snd (keyV m k)))))))))) : Int) == (↑(ByteArray.size (bs (keyL (Prod.fst (keyV n l)) (asL (PV.sl (List.length (Prod.snd (keyV n l))) (List.map PV.str (Prod.snd (keyV n l)))))))) : Int)) == sameX (asL (PV.sl (Int.toNat (↑(List.length (Prod.snd (keyV n l))) : Int) - 0) (List.take ((Int.toNat (↑(List.length (Prod.snd (keyV n l))) : Int) - 0) * 1) (List.drop (0 * 1) (List.map PV.str (Prod.snd (keyV m k))))))) (asL (PV.sl (List.length (Prod.snd (keyV n l))) (List.map PV.str (Prod.snd (keyV n l)))))))), [])))
                                                  (some ((IV.cv (CV.pv (PV.bool false)), []))))
                                                (none))
                                              (none))
                                            (brC (Op.bytesLess (ByteArray.toList (bs (keyL (Prod.fst (keyV n l)) (asL (PV.sl (List.length (Prod.snd (keyV n l))) (List.map PV.str (Prod.snd (keyV n l)))))))) (ByteArray.toList (bs (keyL (Prod.fst (keyV m k)) (asL (PV.sl (List.length (Prod.snd (keyV m k))) (List.map PV.str (Prod.snd (keyV m k)))))))) == true)
                                              (some ((IV.cv (CV.pv (PV.bool (((↑(comL (Array.toList (ByteArray.data (bs (keyL (Prod.fst (keyV n l)) (asL (PV.sl (List.length (Prod.snd (keyV n l))) (List.map PV.str (Prod.snd (keyV n l))))))))) (Array.toList (ByteArray.data (bs (keyL (Prod.fst (keyV m k)) (asL (PV.sl (List.length (Prod.snd (keyV m k))) (List.map PV.str (Prod.snd (keyV m k)))))))))) : Int) == (↑(ByteArray.size (bs (keyL (Prod.fst (keyV n l)) (asL (PV.sl (List.length (Prod.snd (keyV n l))) (List.map PV.str (Prod.snd (keyV n l)))))))) : Int)) == false))), [])))
                                              (some ((IV.cv (CV.pv (PV.bool false)), [])))))
                                          (brC (Op.bytesLess (ByteArray.toList (bs (keyL (Prod.fst (keyV n l)) (asL (PV.sl (List.length (Prod.snd (keyV n l))) (List.map PV.str (Prod.snd (keyV n l)))))))) (ByteArray.toList (bs (keyL (Prod.fst (keyV m k)) (asL (PV.sl (List.length (Prod.snd (keyV m k))) (List.map PV.str (Prod.snd (keyV m k)))))))) == true)
                                            (some ((IV.cv (CV.pv (PV.bool (((↑(comL (Array.toList (ByteArray.data (bs (keyL (Prod.fst (keyV n l)) (asL (PV.sl (List.length (Prod.snd (keyV n l))) (List.map PV.str (Prod.snd (keyV n l))))))))) (Array.toList (ByteArray.data (bs (keyL (Prod.fst (keyV m k)) (asL (PV.sl (List.length (Prod.snd (keyV m k))) (List.map PV.str (Prod.snd (keyV m k)))))))))) : Int) == (↑(ByteArray.size (bs (keyL (Prod.fst (keyV n l)) (asL (PV.sl (List.length (Prod.snd (keyV n l))) (List.map PV.str (Prod.snd (keyV n l)))))))) : Int)) == false))), [])))
                                            (some ((IV.cv (CV.pv (PV.bool false)), [])))))
                                        (brC (ByteArray.toList (Prod.fst (keyV n l)) == ByteArray.toList (Prod.fst (keyV m k)))
                                          (brC (isL (PV.sl (List.length (Prod.snd (keyV n l))) (List.map PV.str (Prod.snd (keyV n l)))) && isL (PV.sl (List.length (Prod.snd (keyV m k))) (List.map PV.str (Prod.snd (keyV m k)))))
                                            (brC (ByteArray.toList (Prod.fst (keyV n l)) == ByteArray.toList (Prod.fst (keyV m k)))
                                              (brC (decide ((↑(List.length (Prod.snd (keyV m k))) : Int) ≥ (↑(List.length (Prod.snd (keyV n l))) : Int)))
                                                (brC (decide (0 ≤ 0) && decide (0 ≤ (↑(List.length (Prod.snd (keyV n l))) : Int)) && decide ((↑(List.length (Prod.snd (keyV n l))) : Int) ≤ (↑(List.length (Prod.snd (keyV m k))) : Int)) && true && true)
                                                  (brC (isL (PV.sl (Int.toNat (↑(List.length (Prod.snd (keyV n l))) : Int) - 0) (List.take ((Int.toNat (↑(List.length (Prod.snd (keyV n l))) : Int) - 0) * 1) (List.drop (0 * 1) (List.map PV.str (Prod.snd (keyV m k)))))) && isL (PV.sl (List.length (Prod.snd (keyV n l))) (List.map PV.str (Prod.snd (keyV n l)))))
                                                    (brC (Op.bytesLess (ByteArray.toList (bs (keyL (Prod.fst (keyV n l)) (asL (PV.sl (List.length (Prod.snd (keyV n l))) (List.map PV.str (Prod.snd (keyV n l)))))))) (ByteArray.toList (bs (keyL (Prod.fst (keyV m k)) (asL (PV.sl (List.length (Prod.snd (keyV m k))) (List.map PV.str (Prod.snd (keyV m k)))))))) == subsLt (asL (PV.sl (List.length (Prod.snd (keyV n l))) (List.map PV.str (Prod.snd (keyV n l))))) (asL (PV.sl (List.length (Prod.snd (keyV m k))) (List.map PV.str (Prod.snd (keyV m k))))))
                                                      (some ((IV.cv (CV.pv (PV.bool (((↑(comL (Array.toList (ByteArray.data (bs (keyL (Prod.fst (keyV n l)) (asL (PV.sl (List.length (Prod.snd (keyV n l))) (List.map PV.str (Prod.snd (keyV n l))))))))) (Array.toList (ByteArray.data (bs (keyL (Prod.fst (keyV m k)) (asL (PV.sl (List.length (Prod.snd (keyV m k))) (List.map PV.str (Prod.snd (keyV m k)))))))))) : Int) == (↑(ByteArray.size (bs (keyL (Prod.fst (keyV n l)) (asL (PV.sl (List.length (Prod.snd (keyV n l))) (List.map PV.str (Prod.snd (keyV n l)))))))) : Int)) == sameX (asL (PV.sl (Int.toNat (↑(List.length (Prod.snd (keyV n l))) : Int) - 0) (List.take ((Int.toNat (↑(List.length (Prod.snd (keyV n l))) : Int) - 0) * 1) (List.drop (0 * 1) (List.map PV.str (Prod.snd (keyV m k))))))) (asL (PV.sl (List.length (Prod.snd (keyV n l))) (List.map PV.str (Prod.snd (keyV n l)))))))), [])))
                                                      (some ((IV.cv (CV.pv (PV.bool false)), []))))
                                                    (none))
                                                  (none))
                                                (brC (Op.bytesLess (ByteArray.toList (bs (keyL (Prod.fst (keyV n l)) (asL (PV.sl (List.length (Prod.snd (keyV n l))) (List.map PV.str (Prod.snd (keyV n l)))))))) (ByteArray.toList (bs (keyL (Prod.fst (keyV m k)) (asL (PV.sl (List.length (Prod.snd (keyV m k))) (List.map PV.str (Prod.snd (keyV m k)))))))) == subsLt (asL (PV.sl (List.length (Prod.snd (keyV n l))) (List.map PV.str (Prod.snd (keyV n l))))) (asL (PV.sl (List.length (Prod.snd (keyV m k))) (List.map PV.str (Prod.snd (keyV m k))))))
                                                  (some ((IV.cv (CV.pv (PV.bool (((↑(comL (Array.toList (ByteArray.data (bs (keyL (Prod.fst (keyV n l)) (asL (PV.sl (List.length (Prod.snd (keyV n l))) (List.map PV.str (Prod.snd (keyV n l))))))))) (Array.toList (ByteArray.data (bs (keyL (Prod.fst (keyV m k)) (asL (PV.sl (List.length (Prod.snd (keyV m k))) (List.map PV.str (Prod.snd (keyV m k)))))))))) : Int) == (↑(ByteArray.size (bs (keyL (Prod.fst (keyV n l)) (asL (PV.sl (List.length (Prod.snd (keyV n l))) (List.map PV.str (Prod.snd (keyV n l)))))))) : Int)) == false))), [])))
                                                  (some ((IV.cv (CV.pv (PV.bool false)), [])))))
                                              (brC (Op.bytesLess (ByteArray.toList (bs (keyL (Prod.fst (keyV n l)) (asL (PV.sl (List.length (Prod.snd (keyV n l))) (List.map PV.str (Prod.snd (keyV n l)))))))) (ByteArray.toList (bs (keyL (Prod.fst (keyV m k)) (asL (PV.sl (List.length (Prod.snd (keyV m k))) (List.map PV.str (Prod.snd (keyV m k)))))))) == subsLt (asL (PV.sl (List.length (Prod.snd (keyV n l))) (List.map PV.str (Prod.snd (keyV n l))))) (asL (PV.sl (List.length (Prod.snd (keyV m k))) (List.map PV.str (Prod.snd (keyV m k))))))
                                                (some ((IV.cv (CV.pv (PV.bool (((↑(comL (Array.toList (ByteArray.data (bs (keyL (Prod.fst (keyV n l)) (asL (PV.sl (List.length (Prod.snd (keyV n l))) (List.map PV.str (Prod.snd (keyV n l))))))))) (Array.toList (ByteArray.data (bs (keyL (Prod.fst (keyV m k)) (asL (PV.sl (List.length (Prod.snd (keyV m k))) (List.map PV.str (Prod.snd (keyV m k)))))))))) : Int) == (↑(ByteArray.size (bs (keyL (Prod.fst (keyV n l)) (asL (PV.sl (List.length (Prod.snd (keyV n l))) (List.map PV.str (Prod.snd (keyV n l)))))))) : Int)) == false))), [])))
                                                (some ((IV.cv (CV.pv (PV.bool false)), [])))))
                                            (none))
                                          (brC (ByteArray.toList (Prod.fst (keyV n l)) == ByteArray.toList (Prod.fst (keyV m k)))
                                            (brC (decide ((↑(List.length (Prod.snd (keyV m k))) : Int) ≥ (↑(List.length (Prod.snd (keyV n l))) : Int)))
                                              (brC (decide (0 ≤ 0) && decide (0 ≤ (↑(List.length (Prod.snd (keyV n l))) : Int)) && decide ((↑(List.length (Prod.snd (keyV n l))) : Int) ≤ (↑(List.length (Prod.snd (keyV m k))) : Int)) && true && true)
                                                (brC (isL (PV.sl (Int.toNat (↑(List.length (Prod.snd (keyV n l))) : Int) - 0) (List.take ((Int.toNat (↑(List.length (Prod.snd (keyV n l))) : Int) - 0) * 1) (List.drop (0 * 1) (List.map PV.str (Prod.snd (keyV m k)))))) && isL (PV.sl (List.length (Prod.snd (keyV n l))) (List.map PV.str (Prod.snd (keyV n l)))))
                                                  (brC (Op.bytesLess (ByteArray.toList (bs (keyL (Prod.fst (keyV n l)) (asL (PV.sl (List.length (Prod.snd (keyV n l))) (List.map PV.str (Prod.snd (keyV n l)))))))) (ByteArray.toList (bs (keyL (Prod.fst (keyV m k)) (asL (PV.sl (List.length (Prod.snd (keyV m k))) (List.map PV.str (Prod.snd (keyV m k)))))))) == false)
                                                    (some ((IV.cv (CV.pv (PV.bool (((↑(comL (Array.toList (ByteArray.data (bs (keyL (Prod.fst (keyV n l)) (asL (PV.sl (List.length (Prod.snd (keyV n l))) (List.map PV.str (Prod.snd (keyV n l))))))))) (Array.toList (ByteArray.data (bs (keyL (Prod.fst (keyV m k)) (asL (PV.sl (List.length (Prod.snd (keyV m k))) (List.map PV.str (Prod.snd (keyV m k)))))))))) : Int) == (↑(ByteArray.size (bs (keyL (Prod.fst (keyV n l)) (asL (PV.sl (List.length (Prod.snd (keyV n l))) (List.map PV.str (Prod.snd (keyV n l)))))))) : Int)) == sameX (asL (PV.sl (Int.toNat (↑(List.length (Prod.snd (keyV n l))) : Int) - 0) (List.take ((Int.toNat (↑(List.length (Prod.snd (keyV n l))) : Int) - 0) * 1) (List.drop (0 * 1) (List.map PV.str (Prod.snd (keyV m k))))))) (asL (PV.sl (List.length (Prod.snd (keyV n l))) (List.map PV.str (Prod.snd (keyV n l)))))))), [])))
                                                    (some ((IV.cv (CV.pv (PV.bool false)), []))))
                                                  (none))
                                                (none))
                                              (brC (Op.bytesLess (ByteArray.toList (bs (keyL (Prod.fst (keyV n l)) (asL (PV.sl (List.length (Prod.snd (keyV n l))) (List.map PV.str (Prod.snd (keyV n l)))))))) (ByteArray.toList (bs (keyL (Prod.fst (keyV m k)) (asL (PV.sl (List.length (Prod.snd (keyV m k))) (List.map PV.str (Prod.snd (keyV m k)))))))) == false)
                                                (some ((IV.cv (CV.pv (PV.bool (((↑(comL (Array.toList (ByteArray.data (bs (keyL (Prod.fst (keyV n l)) (asL (PV.sl (List.length (Prod.snd (keyV n l))) (List.map PV.str (Prod.snd (keyV n l))))))))) (Array.toList (ByteArray.data (bs (keyL (Prod.fst (keyV m k)) (asL (PV.sl (List.length (Prod.snd (keyV m k))) (List.map PV.str (Prod.snd (keyV m k)))))))))) : Int) == (↑(ByteArray.size (bs (keyL (Prod.fst (keyV n l)) (asL (PV.sl (List.length (Prod.snd (keyV n l))) (List.map PV.str (Prod.snd (keyV n l)))))))) : Int)) == false))), [])))
                                                (some ((IV.cv (CV.pv (PV.bool false)), [])))))
                                            (brC (Op.bytesLess (ByteArray.toList (bs (keyL (Prod.fst (keyV n l)) (asL (PV.sl (List.length (Prod.snd (keyV n l))) (List.map PV.str (Prod.snd (keyV n l)))))))) (ByteArray.toList (bs (keyL (Prod.fst (keyV m k)) (asL (PV.sl (List.length (Prod.snd (keyV m k))) (List.map PV.str (Prod.snd (keyV m k)))))))) == false)
                                              (some ((IV.cv (CV.pv (PV.bool (((↑(comL (Array.toList (ByteArray.data (bs (keyL (Prod.fst (keyV n l)) (asL (PV.sl (List.length (Prod.snd (keyV n l))) (List.map PV.str (Prod.snd (keyV n l))))))))) (Array.toList (ByteArray.data (bs (keyL (Prod.fst (keyV m k)) (asL (PV.sl (List.length (Prod.snd (keyV m k))) (List.map PV.str (Prod.snd (keyV m k)))))))))) : Int) == (↑(ByteArray.size (bs (keyL (Prod.fst (keyV n l)) (asL (PV.sl (List.length (Prod.snd (keyV n l))) (List.map PV.str (Prod.snd (keyV n l)))))))) : Int)) == false))), [])))
                                              (some ((IV.cv (CV.pv (PV.bool false)), []))))))))
                                    (brC (Op.bytesLess (ByteArray.toList (Prod.fst (keyV n l))) (ByteArray.toList (Prod.fst (keyV m k))))
                                      (brC (ByteArray.toList (Prod.fst (keyV n l)) == ByteArray.toList (Prod.fst (keyV m k)))
                                        (brC (decide ((↑(List.length (Prod.snd (keyV m k))) : Int) ≥ (↑(List.length (Prod.snd (keyV n l))) : Int)))
                                          (brC (decide (0 ≤ 0) && decide (0 ≤ (↑(List.length (Prod.snd (keyV n l))) : Int)) && decide ((↑(List.length (Prod.snd (keyV n l))) : Int) ≤ (↑(List.length (Prod.snd (keyV m k))) : Int)) && true && true)
                                            (brC (isL (PV.sl (Int.toNat (↑(List.length (Prod.snd (keyV n l))) : Int) - 0) (List.take ((Int.toNat (↑(List.length (Prod.snd (keyV n l))) : Int) - 0) * 1) (List.drop (0 * 1) (List.map PV.str (Prod.snd (keyV m k)))))) && isL (PV.sl (List.length (Prod.snd (keyV n l))) (List.map PV.str (Prod.snd (keyV n l)))))
                                              (brC (Op.bytesLess (ByteArray.toList (bs (keyL (Prod.fst (keyV n l)) (asL (PV.sl (List.length (Prod.snd (keyV n l))) (List.map PV.str (Prod.snd (keyV n l)))))))) (ByteArray.toList (bs (keyL (Prod.fst (keyV m k)) (asL (PV.sl (List.length (Prod.snd (keyV m k))) (List.map PV.str (Prod.snd (keyV m k)))))))) == true)
                                                (some ((IV.cv (CV.pv (PV.bool (((↑(comL (Array.toList (ByteArray.data (bs (keyL (Prod.fst (keyV n l)) (asL (PV.sl (List.length (Prod.snd (keyV n l))) (List.map PV.str (Prod.snd (keyV n l))))))))) (Array.toList (ByteArray.data (bs (keyL (Prod.fst (keyV m k)) (asL (PV.sl (List.length (Prod.snd (keyV m k))) (List.map PV.str (Prod.snd (keyV m k)))))))))) : Int) == (↑(ByteArray.size (bs (keyL (Prod.fst (keyV n l)) (asL (PV.sl (List.length (Prod.snd (keyV n l))) (List.map PV.str (Prod.snd (keyV n l)))))))) : Int)) == sameX (asL (PV.sl (Int.toNat (↑(List.length (Prod.snd (keyV n l))) : Int) - 0) (List.take ((Int.toNat (↑(List.length (Prod.snd (keyV n l))) : Int) - 0) * 1) (List.drop (0 * 1) (List.map PV.str (Prod.snd (keyV m k))))))) (asL (PV.sl (List.length (Prod.snd (keyV n l))) (List.map PV.str (Prod.snd (keyV n l)))))))), [])))
                                                (some ((IV.cv (CV.pv (PV.bool false)), []))))
                                              (none))
                                            (none))
                                          (brC (Op.bytesLess (ByteArray.toList (bs (keyL (Prod.fst (keyV n l)) (asL (PV.sl (List.length (Prod.snd (keyV n l))) (List.map PV.str (Prod.snd (keyV n l)))))))) (ByteArray.toList (bs (keyL (Prod.fst (keyV m k)) (asL (PV.sl (List.length (Prod.snd (keyV m k))) (List.map PV.str (Prod.snd (keyV m k)))))))) == true)
                                            (some ((IV.cv (CV.pv (PV.bool (((↑(comL (Array.toList (ByteArray.data (bs (keyL (Prod.fst (keyV n l)) (asL (PV.sl (List.length (Prod.snd (keyV n l))) (List.map PV.str (Prod.snd (keyV n l))))))))) (Array.toList (ByteArray.data (bs (keyL (Prod.fst (keyV m k)) (asL (PV.sl (List.length (Prod.snd (keyV m k))) (List.map PV.str (Prod.snd (keyV m k)))))))))) : Int) == (↑(ByteArray.size (bs (keyL (Prod.fst (keyV n l)) (asL (PV.sl (List.length (Prod.snd (keyV n l))) (List.map PV.str (Prod.snd (keyV n l)))))))) : Int)) == false))), [])))
                                            (some ((IV.cv (CV.pv (PV.bool false)), [])))))
                                        (brC (Op.bytesLess (ByteArray.toList (bs (keyL (Prod.fst (keyV n l)) (asL (PV.sl (List.length (Prod.snd (keyV n l))) (List.map PV.str (Prod.snd (keyV n l)))))))) (ByteArray.toList (bs (keyL (Prod.fst (keyV m k)) (asL (PV.sl (List.length (Prod.snd (keyV m k))) (List.map PV.str (Prod.snd (keyV m k)))))))) == true)
                                          (some ((IV.cv (CV.pv (PV.bool (((↑(comL (Array.toList (ByteArray.data (bs (keyL (Prod.fst (keyV n l)) (asL (PV.sl (List.length (Prod.snd (keyV n l))) (List.map PV.str (Prod.snd (keyV n l))))))))) (Array.toList (ByteArray.data (bs (keyL (Prod.fst (keyV m k)) (asL (PV.sl (List.length (Prod.snd (keyV m k))) (List.map PV.str (Prod.snd (keyV m k)))))))))) : Int) == (↑(ByteArray.size (bs (keyL (Prod.fst (keyV n l)) (asL (PV.sl (List.length (Prod.snd (keyV n l))) (List.map PV.str (Prod.snd (keyV n l)))))))) : Int)) == false))), [])))
                                          (some ((IV.cv (CV.pv (PV.bool false)), [])))))
                                      (brC (ByteArray.toList (Prod.fst (keyV n l)) == ByteArray.toList (Prod.fst (keyV m k)))
                                        (brC (isL (PV.sl (List.length (Prod.snd (keyV n l))) (List.map PV.str (Prod.snd (keyV n l)))) && isL (PV.sl (List.length (Prod.snd (keyV m k))) (List.map PV.str (Prod.snd (keyV m k)))))
                                          (brC (ByteArray.toList (Prod.fst (keyV n l)) == ByteArray.toList (Prod.fst (keyV m k)))
                                            (brC (decide ((↑(List.length (Prod.snd (keyV m k))) : Int) ≥ (↑(List.length (Prod.snd (keyV n l))) : Int)))
                                              (brC (decide (0 ≤ 0) && decide (0 ≤ (↑(List.length (Prod.snd (keyV n l))) : Int)) && decide ((↑(List.length (Prod.snd (keyV n l))) : Int) ≤ (↑(List.length (Prod.snd (keyV m k))) : Int)) && true && true)
                                                (brC (isL (PV.sl (Int.toNat (↑(List.length (Prod.snd (keyV n l))) : Int) - 0) (List.take ((Int.toNat (↑(List.length (Prod.snd (keyV n l))) : Int) - 0) * 1) (List.drop (0 * 1) (List.map PV.str (Prod.snd (keyV m k)))))) && isL (PV.sl (List.length (Prod.snd (keyV n l))) (List.map PV.str (Prod.snd (keyV n l)))))
                                                  (brC (Op.bytesLess (ByteArray.toList (bs (keyL (Prod.fst (keyV n l)) (asL (PV.sl (List.length (Prod.snd (keyV n l))) (List.map PV.str (Prod.snd (keyV n l)))))))) (ByteArray.toList (bs (keyL (Prod.fst (keyV m k)) (asL (PV.sl (List.length (Prod.snd (keyV m k))) (List.map PV.str (Prod.snd (keyV m k)))))))) == subsLt (asL (PV.sl (List.length (Prod.snd (keyV n l))) (List.map PV.str (Prod.snd (keyV n l))))) (asL (PV.sl (List.length (Prod.snd (keyV m k))) (List.map PV.str (Prod.snd (keyV m k))))))
                                                    (some ((IV.cv (CV.pv (PV.bool (((↑(comL (Array.toList (ByteArray.data (bs (keyL (Prod.fst (keyV n l)) (asL (PV.sl (List.length (Prod.snd (keyV n l))) (List.map PV.str (Prod.snd (keyV n l))))))))) (Array.toList (ByteArray.data (bs (keyL (Prod.fst (keyV m k)) (asL (PV.sl (List.length (Prod.snd (keyV m k))) (List.map PV.str (Prod.snd (keyV m k)))))))))) : Int) == (↑(ByteArray.size (bs (keyL (Prod.fst (keyV n l)) (asL (PV.sl (List.length (Prod.snd (keyV n l))) (List.map PV.str (Prod.snd (keyV n l)))))))) : Int)) == sameX (asL (PV.sl (Int.toNat (↑(List.length (Prod.snd (keyV n l))) : Int) - 0) (List.take ((Int.toNat (↑(List.length (Prod.snd (keyV n l))) : Int) - 0) * 1) (List.drop (0 * 1) (List.map PV.str (Prod.snd (keyV m k))))))) (asL (PV.sl (List.length (Prod.snd (keyV n l))) (List.map PV.str (Prod.snd (keyV n l)))))))), [])))
                                                    (some ((IV.cv (CV.pv (PV.bool false)), []))))
                                                  (none))
                                                (none))
                                              (brC (Op.bytesLess (ByteArray.toList (bs (keyL (Prod.fst (keyV n l)) (asL (PV.sl (List.length (Prod.snd (keyV n l))) (List.map PV.str (Prod.snd (keyV n l)))))))) (ByteArray.toList (bs (keyL (Prod.fst (keyV m k)) (asL (PV.sl (List.length (Prod.snd (keyV m k))) (List.map PV.str (Prod.snd (keyV m k)))))))) == subsLt (asL (PV.sl (List.length (Prod.snd (keyV n l))) (List.map PV.str (Prod.snd (keyV n l))))) (asL (PV.sl (List.length (Prod.snd (keyV m k))) (List.map PV.str (Prod.snd (keyV m k))))))
                                                (some ((IV.cv (CV.pv (PV.bool (((↑(comL (Array.toList (ByteArray.data (bs (keyL (Prod.fst (keyV n l)) (asL (PV.sl (List.length (Prod.snd (keyV n l))) (List.map PV.str (Prod.snd (keyV n l))))))))) (Array.toList (ByteArray.data (bs (keyL (Prod.fst (keyV m k)) (asL (PV.sl (List.length (Prod.snd (keyV m k))) (List.map PV.str (Prod.snd (keyV m k)))))))))) : Int) == (↑(ByteArray.size (bs (keyL (Prod.fst (keyV n l)) (asL (PV.sl (List.length (Prod.snd (keyV n l))) (List.map PV.str (Prod.snd (keyV n l)))))))) : Int)) == false))), [])))
                                                (some ((IV.cv (CV.pv (PV.bool false)), [])))))
                                            (brC (Op.bytesLess (ByteArray.toList (bs (keyL (Prod.fst (keyV n l)) (asL (PV.sl (List.length (Prod.snd (keyV n l))) (List.map PV.str (Prod.snd (keyV n l)))))))) (ByteArray.toList (bs (keyL (Prod.fst (keyV m k)) (asL (PV.sl (List.length (Prod.snd (keyV m k))) (List.map PV.str (Prod.snd (keyV m k)))))))) == subsLt (asL (PV.sl (List.length (Prod.snd (keyV n l))) (List.map PV.str (Prod.snd (keyV n l))))) (asL (PV.sl (List.length (Prod.snd (keyV m k))) (List.map PV.str (Prod.snd (keyV m k))))))
                                              (some ((IV.cv (CV.pv (PV.bool (((↑(comL (Array.toList (ByteArray.data (bs (keyL (Prod.fst (keyV n l)) (asL (PV.sl (List.length (Prod.snd (keyV n l))) (List.map PV.str (Prod.snd (keyV n l))))))))) (Array.toList (ByteArray.data (bs (keyL (Prod.fst (keyV m k)) (asL (PV.sl (List.length (Prod.snd (keyV m k))) (List.map PV.str (Prod.snd (keyV m k)))))))))) : Int) == (↑(ByteArray.size (bs (keyL (Prod.fst (keyV n l)) (asL (PV.sl (List.length (Prod.snd (keyV n l))) (List.map PV.str (Prod.snd (keyV n l)))))))) : Int)) == false))), [])))
                                              (some ((IV.cv (CV.pv (PV.bool false)), [])))))
                                          (none))
                                        (brC (ByteArray.toList (Prod.fst (keyV n l)) == ByteArray.toList (Prod.fst (keyV m k)))
                                          (brC (decide ((↑(List.length (Prod.snd (keyV m k))) : Int) ≥ (↑(List.length (Prod.snd (keyV n l))) : Int)))
                                            (brC (decide (0 ≤ 0) && decide (0 ≤ (↑(List.length (Prod.snd (keyV n l))) : Int)) && decide ((↑(List.length (Prod.snd (keyV n l))) : Int) ≤ (↑(List.length (Prod.snd (keyV m k))) : Int)) && true && true)
                                              (brC (isL (PV.sl (Int.toNat (↑(List.length (Prod.snd (keyV n l))) : Int) - 0) (List.take ((Int.toNat (↑(List.length (Prod.snd (keyV n l))) : Int) - 0) * 1) (List.drop (0 * 1) (List.map PV.str (Prod.snd (keyV m k)))))) && isL (PV.sl (List.length (Prod.snd (keyV n l))) (List.map PV.str (Prod.snd (keyV n l)))))
                                                (brC (Op.bytesLess (ByteArray.toList (bs (keyL (Prod.fst (keyV n l)) (asL (PV.sl (List.length (Prod.snd (keyV n l))) (List.map PV.str (Prod.snd (keyV n l)))))))) (ByteArray.toList (bs (keyL (Prod.fst (keyV m k)) (asL (PV.sl (List.length (Prod.snd (keyV m k))) (List.map PV.str (Prod.snd (keyV m k)))))))) == false)
                                                  (some ((IV.cv (CV.pv (PV.bool (((↑(comL (Array.toList (ByteArray.data (bs (keyL (Prod.fst (keyV n l)) (asL (PV.sl (List.length (Prod.snd (keyV n l))) (List.map PV.str (Prod.snd (keyV n l))))))))) (Array.toList (ByteArray.data (bs (keyL (Prod.fst (keyV m k)) (asL (PV.sl (List.length (Prod.snd (keyV m k))) (List.map PV.str (Prod.snd (keyV m k)))))))))) : Int) == (↑(ByteArray.size (bs (keyL (Prod.fst (keyV n l)) (asL (PV.sl (List.length (Prod.snd (keyV n l))) (List.map PV.str (Prod.snd (keyV n l)))))))) : Int)) == sameX (asL (PV.sl (Int.toNat (↑(List.length (Prod.snd (keyV n l))) : Int) - 0) (List.take ((Int.toNat (↑(List.length (Prod.snd (keyV n l))) : Int) - 0) * 1) (List.drop (0 * 1) (List.map PV.str (Prod.snd (keyV m k))))))) (asL (PV.sl (List.length (Prod.snd (keyV n l))) (List.map PV.str (Prod.snd (keyV n l)))))))), [])))
                                                  (some ((IV.cv (CV.pv (PV.bool false)), []))))
                                                (none))
                                              (none))
                                            (brC (Op.bytesLess (ByteArray.toList (bs (keyL (Prod.fst (keyV n l)) (asL (PV.sl (List.length (Prod.snd (keyV n l))) (List.map PV.str (Prod.snd (keyV n l)))))))) (ByteArray.toList (bs (keyL (Prod.fst (keyV m k)) (asL (PV.sl (List.length (Prod.snd (keyV m k))) (List.map PV.str (Prod.snd (keyV m k)))))))) == false)
                                              (some ((IV.cv (CV.pv (PV.bool (((↑(comL (Array.toList (ByteArray.data (bs (keyL (Prod.fst (keyV n l)) (asL (PV.sl (List.length (Prod.snd (keyV n l))) (List.map PV.str (Prod.snd (keyV n l))))))))) (Array.toList (ByteArray.data (bs (keyL (Prod.fst (keyV m k)) (asL (PV.sl (List.length (Prod.snd (keyV m k))) (List.map PV.str (Prod.snd (keyV m k)))))))))) : Int) == (↑(ByteArray.size (bs (keyL (Prod.fst (keyV n l)) (asL (PV.sl (List.length (Prod.snd (keyV n l))) (List.map PV.str (Prod.snd (keyV n l)))))))) : Int)) == false))), [])))
                                              (some ((IV.cv (CV.pv (PV.bool false)), [])))))
                                          (brC (Op.bytesLess (ByteArray.toList (bs (keyL (Prod.fst (keyV n l)) (asL (PV.sl (List.length (Prod.snd (keyV n l))) (List.map PV.str (Prod.snd (keyV n l)))))))) (ByteArray.toList (bs (keyL (Prod.fst (keyV m k)) (asL (PV.sl (List.length (Prod.snd (keyV m k))) (List.map PV.str (Prod.snd (keyV m k)))))))) == false)
                                            (some ((IV.cv (CV.pv (PV.bool (((↑(comL (Array.toList (ByteArray.data (bs (keyL (Prod.fst (keyV n l)) (asL (PV.sl (List.length (Prod.snd (keyV n l))) (List.map PV.str (Prod.snd (keyV n l))))))))) (Array.toList (ByteArray.data (bs (keyL (Prod.fst (keyV m k)) (asL (PV.sl (List.length (Prod.snd (keyV m k))) (List.map PV.str (Prod.snd (keyV m k)))))))))) : Int) == (↑(ByteArray.size (bs (keyL (Prod.fst (keyV n l)) (asL (PV.sl (List.length (Prod.snd (keyV n l))) (List.map PV.str (Prod.snd (keyV n l)))))))) : Int)) == false))), [])))
                                            (some ((IV.cv (CV.pv (PV.bool false)), [])))))))))
                                (none))
                              (none)))))
                      (none)))
                  (none))
                (none))))
          (brC (decide (ByteArray.size (Prod.fst (keyV m k)) ≤ 1000000) && isL (PV.sl (List.length (Prod.snd (keyV m k))) (List.map PV.str (Prod.snd (keyV m k)))))
            (brC (ByteArray.toList (bs (keyL (Prod.fst (keyV n l)) (asL (PV.sl (List.length (Prod.snd (keyV n l))) (List.map PV.str (Prod.snd (keyV n l))))))) == [])
              (brC (decide (ByteArray.size (Prod.fst (keyV n l)) ≤ 1000000))
                (brC (nameB (Prod.fst (keyV n l)))
                  (brC (isL (PV.sl (List.length (Prod.snd (keyV n l))) (List.map PV.str (Prod.snd (keyV n l)))))
                    (some ((IV.cv (CV.pv (PV.bool ((ByteArray.toList (bs (keyL (Prod.fst (keyV n l)) (asL (PV.sl (List.length (Prod.snd (keyV n l))) (List.map PV.str (Prod.snd (keyV n l))))))) == []) == !subsB (asL (PV.sl (List.length (Prod.snd (keyV n l))) (List.map PV.str (Prod.snd (keyV n l)))))))), [])))
                    (none))
                  (some ((IV.cv (CV.pv (PV.bool ((ByteArray.toList (bs (keyL (Prod.fst (keyV n l)) (asL (PV.sl (List.length (Prod.snd (keyV n l))) (List.map PV.str (Prod.snd (keyV n l))))))) == []) == !false))), []))))
                (none))
              (brC (decide (ByteArray.size (Prod.fst (keyV n l)) ≤ 1000000))
                (brC (nameB (Prod.fst (keyV n l)))
                  (brC (isL (PV.sl (List.length (Prod.snd (keyV n l))) (List.map PV.str (Prod.snd (keyV n l)))))
                    (some ((IV.cv (CV.pv (PV.bool ((ByteArray.toList (bs (keyL (Prod.fst (keyV n l)) (asL (PV.sl (List.length (Prod.snd (keyV n l))) (List.map PV.str (Prod.snd (keyV n l))))))) == []) == !subsB (asL (PV.sl (List.length (Prod.snd (keyV n l))) (List.map PV.str (Prod.snd (keyV n l)))))))), [])))
                    (none))
                  (some ((IV.cv (CV.pv (PV.bool ((ByteArray.toList (bs (keyL (Prod.fst (keyV n l)) (asL (PV.sl (List.length (Prod.snd (keyV n l))) (List.map PV.str (Prod.snd (keyV n l))))))) == []) == !false))), []))))
                (none)))
            (none)))
        (brC (decide (ByteArray.size (Prod.fst (keyV n l)) ≤ 1000000) && isL (PV.sl (List.length (Prod.snd (keyV n l))) (List.map PV.str (Prod.snd (keyV n l)))))
          (brC (decide (ByteArray.size (Prod.fst (keyV m k)) ≤ 1000000) && isL (PV.sl (List.length (Prod.snd (keyV m k))) (List.map PV.str (Prod.snd (keyV m k)))) && placeB (Prod.fst (keyV m k)) (asL (PV.sl (List.length (Prod.snd (keyV m k))) (List.map PV.str (Prod.snd (keyV m k))))))
            (brC (decide (ByteArray.size (Prod.fst (keyV n l)) ≤ 1000000))
              (brC (nameB (Prod.fst (keyV n l)))
                (brC (isL (PV.sl (List.length (Prod.snd (keyV n l))) (List.map PV.str (Prod.snd (keyV n l)))))
                  (some ((IV.cv (CV.pv (PV.bool ((([] : List UInt8) == []) == !subsB (asL (PV.sl (List.length (Prod.snd (keyV n l))) (List.map PV.str (Prod.snd (keyV n l)))))))), [])))
                  (none))
                (some ((IV.cv (CV.pv (PV.bool true)), []))))
              (none))
            (brC (decide (ByteArray.size (Prod.fst (keyV m k)) ≤ 1000000) && isL (PV.sl (List.length (Prod.snd (keyV m k))) (List.map PV.str (Prod.snd (keyV m k)))))
              (brC (decide (ByteArray.size (Prod.fst (keyV n l)) ≤ 1000000))
                (brC (nameB (Prod.fst (keyV n l)))
                  (brC (isL (PV.sl (List.length (Prod.snd (keyV n l))) (List.map PV.str (Prod.snd (keyV n l)))))
                    (some ((IV.cv (CV.pv (PV.bool ((([] : List UInt8) == []) == !subsB (asL (PV.sl (List.length (Prod.snd (keyV n l))) (List.map PV.str (Prod.snd (keyV n l)))))))), [])))
                    (none))
                  (some ((IV.cv (CV.pv (PV.bool true)), []))))
                (none))
              (none)))
          (none)))
      (none))
    (none)) := by kernel_rfl
theorem q_KeyOf_eq (s : ByteArray) (xs : List ByteArray) : q_KeyOf brC s xs =
 brC (decide (ByteArray.size s ≤ 1000000) && isL (PV.sl (List.length xs) (List.map PV.str xs)))
  (brC (!placeB s (asL (PV.sl (List.length xs) (List.map PV.str xs))))
    (some ((IV.cv (CV.pv (PV.str { data := #[] })), [])))
    (brC (decide (ByteArray.size s + 1 ≤ 9223372036854775807) && true)
      (brC (isL (PV.sl (List.length xs) (List.map PV.str xs)))
        (brC (decide (ByteArray.size (s ++ { data := #[1] }) + ByteArray.size (bs (putL (asL (PV.sl (List.length xs) (List.map PV.str xs))))) ≤ 9223372036854775807) && true)
          (some ((IV.cv (CV.pv (PV.str (s ++ { data := #[1] } ++ bs (putL (asL (PV.sl (List.length xs) (List.map PV.str xs))))))), [])))
          (none))
        (none))
      (none)))
  (none) := by kernel_rfl
theorem q_KeyPlace_eq (a : ByteArray) : q_KeyPlace brC a =
 brC (decide (ByteArray.size a ≤ 1000000))
  (brC (holds (isEnc (Array.toList (ByteArray.data (bs (Prod.fst (Prod.snd (Lib.cut (Array.toList (ByteArray.data a)) [1]))))))))
    (brC (!Prod.snd (Prod.snd (Lib.cut (Array.toList (ByteArray.data a)) [1])))
      (some ((IV.tup [IV.cv (CV.pv (PV.str { data := #[] })), IV.cv (CV.pv PV.nils), IV.cv (CV.pv (PV.bool false))], [])))
      (brC (decide (ByteArray.size (bs (Prod.fst (Lib.cut (Array.toList (ByteArray.data a)) [1]))) ≤ 1000000))
        (brC (!nameB (bs (Prod.fst (Lib.cut (Array.toList (ByteArray.data a)) [1]))))
          (some ((IV.tup [IV.cv (CV.pv (PV.str { data := #[] })), IV.cv (CV.pv PV.nils), IV.cv (CV.pv (PV.bool false))], [])))
          (some ((IV.tup [IV.cv (CV.pv (PV.str (bs (Prod.fst (Lib.cut (Array.toList (ByteArray.data a)) [1]))))), IV.cv (CV.pv (PV.sl (List.length (decL (Array.toList (ByteArray.data (bs (Prod.fst (Prod.snd (Lib.cut (Array.toList (ByteArray.data a)) [1])))))))) (List.map PV.str (decL (Array.toList (ByteArray.data (bs (Prod.fst (Prod.snd (Lib.cut (Array.toList (ByteArray.data a)) [1])))))))))), IV.cv (CV.pv (PV.bool true))], []))))
        (none)))
    (none))
  (none) := by kernel_rfl
theorem r_Shared_eq (a : ByteArray) (b : ByteArray) (i : Int) : r_Shared brC a b i =
 brC (decide (i < (↑(ByteArray.size a) : Int)))
  (brC (decide (i < (↑(ByteArray.size b) : Int)))
    (brC (decide (0 ≤ i) && decide (i < (↑(ByteArray.size a) : Int)) && true)
      (brC (decide (0 ≤ i) && decide (i < (↑(ByteArray.size b) : Int)) && true)
        (brC ((↑(UInt8.toNat (List.getD (Array.toList (ByteArray.data a)) (Int.toNat i) 0)) : Int) == (↑(UInt8.toNat (List.getD (Array.toList (ByteArray.data b)) (Int.toNat i) 0)) : Int))
          (some (Sum.inl [(AV.pv (PV.str a), none), (AV.pv (PV.str b), none), (AV.pv (PV.int IntKind.i64 (IntKind.wrap IntKind.i64 (i + 1))), none)]))
          (some (Sum.inr (Ex.exit 0, [(AV.pv (PV.int IntKind.i64 i), none)]))))
        (none))
      (none))
    (some (Sum.inr (Ex.exit 0, [(AV.pv (PV.int IntKind.i64 i), none)]))))
  (some (Sum.inr (Ex.exit 0, [(AV.pv (PV.int IntKind.i64 i), none)]))) := by kernel_rfl
theorem q_DrawKey_eq (n : Nat) (l : List PV) : q_DrawKey brC n l =
 brC (srcOk n l 0 0 && decide (0 ≤ 400000) && isT (PV.agg [PV.sl 0 []]) && holds (List.length (asT (PV.agg [PV.sl 0 []])) ≤ 200 ∧ few (asT (PV.agg [PV.sl 0 []]))))
  (some ((IV.tup [IV.cv (CV.pv (PV.str (Prod.fst (Prod.fst (whereV (asT (PV.agg [PV.sl 0 []])) n l 0))))), IV.cv (CV.lst 1 9 (List.length (Prod.snd (Prod.fst (whereV (asT (PV.agg [PV.sl 0 []])) n l 0)))) (List.map PV.str (Prod.snd (Prod.fst (whereV (asT (PV.agg [PV.sl 0 []])) n l 0)))) false)], [])))
  (none) := by kernel_rfl
theorem q_long2_eq (n : Nat) (m : Nat) (l : List PV) (k : List PV) : q_long2 brC n m l k =
 brC (decide ((↑n : Int) > 1048576))
  (some ((IV.cv (CV.pv (PV.bool true)), [])))
  (some ((IV.cv (CV.pv (PV.bool (decide ((↑m : Int) > 1048576)))), []))) := by kernel_rfl
end

section
open Go.RowKit
set_option linter.unusedVariables false
set_option linter.unusedSimpArgs false
set_option maxRecDepth 100000

theorem ok_wga0 : EntriesOk Tryz.prog wga0 := ⟨ok_l03Where, ok_dab0⟩
theorem keyV_ok {n : Nat} {l : List PV} (hw : wfB n l = true) (hn : n ≤ 1048577) : whR (keyV n l) := (drawV_ok (where_draw shT_nil (by decide) few_nil) hw hn (k := 0) (by omega)).2.2.1
theorem ok_DrawKey : EntryOk Tryz.prog 27 E_DrawKey := entry_ofM mix ok_wga0 (lp := []) (LO := LO0) ⟨Tryz.func27, by kernel_rfl, by kernel_rfl⟩ (by kernel_rfl) fun ivs res bxs h => by
  unfold E_DrawKey at h
  split at h
  · rename_i n l
    obtain ⟨hc, he⟩ := pick1 h
    cases he
    simp only [Bool.and_eq_true, decide_eq_true_eq] at hc
    obtain ⟨hw, hn⟩ := hc
    have tree := q_DrawKey_eq n l
    have s0 : srcOk n l 0 0 = true := srcOk_mk (k := 0) hw (by omega) hn
    have e1 : isT (PV.agg [PV.sl 0 []]) = true := isT_mk shT_nil
    have e2 : asT (PV.agg [PV.sl 0 []]) = [] := asT_mk []
    have e3 : holds (([] : List NodeT).length ≤ 200 ∧ few []) = true := holds_mk ⟨by decide, few_nil⟩
    rw [e1, e2, s0, e3] at tree
    exact ⟨noLoop (by kernel_rfl), .tup [cS (keyV n l).1, .cv (.lst 1 9 (keyV n l).2.length ((keyV n l).2.map .str) false)], tree.trans rfl, rfl, rfl⟩
  · cases h
theorem ok_wga1 : EntriesOk Tryz.prog wga1 := ⟨ok_locationOk, ok_PutSubs, trivial⟩
theorem placeB_inv {s : ByteArray} {xs : List ByteArray} (h : placeB s xs = true) : nameB s = true ∧ subsB xs = true := by
  unfold placeB at h
  rw [Bool.and_eq_true] at h
  exact h
theorem nameB_size {s : ByteArray} (h : nameB s = true) : s.size ≤ 8 := by
  unfold nameB at h
  rw [Bool.and_eq_true, Bool.and_eq_true, decide_eq_true_eq, decide_eq_true_eq] at h
  exact h.1.2
theorem keyL_len {s : ByteArray} {xs : List ByteArray} (h : placeB s xs = true) : (keyL s xs).length ≤ 300 := by
  obtain ⟨h1, h2⟩ := placeB_inv h
  obtain ⟨h3, h4⟩ := subsB_inv h2
  have h5 := encL_len xs h4
  have h6 := nameB_size h1
  rw [size_len] at h6
  unfold keyL
  rw [List.length_append, List.length_cons]
  omega
theorem app_bs (a b : List UInt8) : bs a ++ bs b = bs (a ++ b) := by
  apply ByteArray.ext
  apply Array.ext'
  show (bs a ++ bs b).data.toList = _
  rw [ByteArray.data_append, Array.toList_append, bs_data, bs_data]
  exact (bs_data _).symm
theorem ok_KeyOf : EntryOk Tryz.prog 28 E_KeyOf := entry_of mix ok_wga1 (lp := []) (LO := LO0) ⟨Tryz.func28, by kernel_rfl, by kernel_rfl⟩ (by kernel_rfl) fun ivs res bxs h => by
  unfold E_KeyOf at h
  split at h
  · rename_i s p
    refine ⟨noLoop (by kernel_rfl), ?_⟩
    rcases pick2 h with ⟨hc, he⟩ | ⟨hc1, hc, he⟩
    · cases he
      simp only [Bool.and_eq_true, decide_eq_true_eq] at hc
      obtain ⟨⟨h1, h2⟩, h3⟩ := hc
      obtain ⟨xs, rfl, hx⟩ := isL_inv h2
      have ea : asL (pL xs) = xs := asL_mk xs
      rw [ea] at h3 ⊢
      have tree := q_KeyOf_eq s xs
      have e1 : isL (PV.sl xs.length (xs.map .str)) = true := isL_mk hx
      have e2 : asL (PV.sl xs.length (xs.map .str)) = xs := asL_mk xs
      have hp : putL xs = encL xs := by unfold putL; rw [if_pos (placeB_inv h3).2]
      have e3 : s ++ { data := #[1] } ++ bs (encL xs) = bs (keyL s xs) := by
        conv => lhs; rw [← bs_self s]
        rw [show ({ data := #[1] } : ByteArray) = bs [1] from rfl, app_bs, app_bs]
        unfold keyL
        rw [List.append_assoc]
        rfl
      have hk := keyL_len h3
      have l1 : (s ++ { data := #[1] }).size + (bs (encL xs)).size = (keyL s xs).length := by rw [← ByteArray.size_append, e3, bs_len]
      rw [e2, hp] at tree
      rw [l1, e3, e1, h3, dT h1, dT (show s.size + 1 ≤ 9223372036854775807 by omega), dT (show (keyL s xs).length ≤ 9223372036854775807 by omega)] at tree
      exact tree.trans rfl
    · cases he
      simp only [Bool.and_eq_true, decide_eq_true_eq] at hc
      obtain ⟨h1, h2⟩ := hc
      obtain ⟨xs, rfl, hx⟩ := isL_inv h2
      have tree := q_KeyOf_eq s xs
      have e1 : isL (PV.sl xs.length (xs.map .str)) = true := isL_mk hx
      have e2 : asL (PV.sl xs.length (xs.map .str)) = xs := asL_mk xs
      have h3 : placeB s xs = false := by
        have ea : asL (pL xs) = xs := asL_mk xs
        rw [h2, dT h1, ea] at hc1
        exact hc1
      rw [e2, e1, h3, dT h1] at tree
      exact tree.trans rfl
  · cases h
theorem ok_Cut : EntryOk Tryz.prog 77 E_Cut := ⟨⟨_, Tryz.func77, by kernel_rfl, by kernel_rfl⟩, fun ivs res bxs h => by
  unfold E_Cut at h
  split at h
  · rename_i s t
    obtain ⟨hc, he⟩ := pick1 h
    cases he
    have hc := of_decide_eq_true hc
    intro w com vals bs' hI hnd hfresh hgl
    obtain ⟨hp, rfl⟩ := ivs_inv (ps := [.str s, .str t]) hI
    obtain ⟨v, vs, rfl, hv1, hn⟩ := hp.of_cons
    obtain ⟨v2, vs2, rfl, hv2, hn2⟩ := hn.of_cons
    rw [hn2.of_nil]
    cases hv1
    cases hv2
    obtain ⟨m, hm⟩ := maxW_gl hgl
    refine (Tryz.strings_Cut s t m w (by omega) hm).mono ?_
    rintro e w' ⟨rfl, hd⟩
    have hb : Below w.heap.size w w' := by
      obtain ⟨k, rfl⟩ := hd
      exact below_drewN (Below.refl _ _) _
    refine ⟨_, com, [], [], rfl, ⟨fun _ => Nat.le_refl _, fun b i hi => ?_⟩, ⟨hb.os, hb.tape, hb.output, hb.size, fun b hlt _ => hb.block b hlt⟩, fun b h => hfresh b (Nat.le_trans hb.size h), fun _ _ _ => rfl, ?_, .other _ _ _ _ _ _ rfl (.other _ _ _ _ _ _ rfl .nil), List.nodup_nil, fun b hb => by cases hb⟩
    · have hlt : b < w.heap.size := by
        rcases Nat.lt_or_ge b w.heap.size with h | h
        · exact h
        · rw [hfresh b h] at hi; exact absurd hi (Nat.not_lt_zero _)
      exact contract_flatG.cell_of_block (hb.block b hlt)
    · exact .tup [.string (bs (Lib.cut s.data.toList t.data.toList).1), .string (bs (Lib.cut s.data.toList t.data.toList).2.1), .bool (Lib.cut s.data.toList t.data.toList).2.2] [cS (bs (Lib.cut s.data.toList t.data.toList).1), cS (bs (Lib.cut s.data.toList t.data.toList).2.1), cB (Lib.cut s.data.toList t.data.toList).2.2] [] (.cons (b1 := []) (.cv _ _ _ (.pv _ _ (.str _))) (.cons (b1 := []) (.cv _ _ _ (.pv _ _ (.str _))) (.cons (b1 := []) (.cv _ _ _ (.pv _ _ (.bool _))) .nil)))
  · cases h⟩
theorem ok_wga2 : EntriesOk Tryz.prog wga2 := ⟨ok_Cut, ok_GetSubs, ok_INameOk, trivial⟩
theorem keyL_inj {s t : ByteArray} {xs ys : List ByteArray} (hs : placeB s xs = true) (ht : placeB t ys = true) (h : keyL s xs = keyL t ys) : s = t ∧ xs = ys := by
  obtain ⟨h1, h2⟩ := key_cut (nameB_big (placeB_inv hs).1) (nameB_big (placeB_inv ht).1) h
  exact ⟨ByteArray.ext (Array.ext' h1), encL_inj h2⟩
theorem decK_key {s : ByteArray} {xs : List ByteArray} (h : placeB s xs = true) : decK (bs (keyL s xs)) = (s, xs) := by
  have := @Classical.epsilon_spec _ (fun x : ByteArray × List ByteArray => (bs (keyL s xs)).data.toList = keyL x.1 x.2 ∧ placeB x.1 x.2 = true) ⟨(s, xs), bs_data _, h⟩
  obtain ⟨h1, h2⟩ := this
  obtain ⟨h3, h4⟩ := keyL_inj h h2 ((bs_data _).symm.trans h1)
  exact Prod.ext h3.symm h4.symm
theorem ok_KeyPlace : EntryOk Tryz.prog 31 E_KeyPlace := entry_of mix ok_wga2 (lp := []) (LO := LO0) ⟨Tryz.func31, by kernel_rfl, by kernel_rfl⟩ (by kernel_rfl) fun ivs res bxs h => by
  unfold E_KeyPlace at h
  split at h
  · rename_i a
    obtain ⟨hc, he⟩ := pick1 h
    cases he
    rw [Bool.and_eq_true, decide_eq_true_eq] at hc
    obtain ⟨h1, h2⟩ := hc
    obtain ⟨⟨s, xs⟩, h3, h4⟩ := holds_inv h2
    have h3 : a.data.toList = keyL s xs := h3
    have h4 : placeB s xs = true := h4
    have ha : a = bs (keyL s xs) := by rw [← h3, bs_self]
    refine ⟨noLoop (by kernel_rfl), ?_⟩
    rw [ha, decK_key h4]
    have tree := q_KeyPlace_eq (bs (keyL s xs))
    obtain ⟨n1, n2⟩ := placeB_inv h4
    have hcut : Lib.cut (bs (keyL s xs)).data.toList [1] = (s.data.toList, encL xs, true) := by
      rw [bs_data]
      exact cut_key (nameB_big n1)
    have e1 : holds (isEnc (bs (encL xs)).data.toList) = true := holds_mk ⟨xs, bs_data _, n2⟩
    have e2 : decL (bs (encL xs)).data.toList = xs := by rw [bs_data, decL_enc]
    have e3 : bs s.data.toList = s := bs_self s
    have l1 := nameB_size n1
    rw [hcut] at tree
    simp only [e1, e2, e3, n1] at tree
    rw [← ha, dT h1, dT (show s.size ≤ 1000000 by omega)] at tree
    rw [← ha]
    exact tree.trans rfl
  · cases h
theorem Shared_loop (a b : ByteArray) (ha : a.size ≤ 1000000) : ∀ (m i : Nat), i + m = comL a.data.toList b.data.toList → LoopsTo (rdB brC Tryz.prog [] lp_Shared LO_Shared Tryz.f32 2 []) [aS a, aS b, aI i] (.exit 0, [aI (comL a.data.toList b.data.toList)]) := by
  obtain ⟨c1, c2⟩ := comL_le a.data.toList b.data.toList
  rw [← size_len] at c1 c2
  intro m
  induction m with
  | zero =>
    intro i hm
    obtain rfl : i = comL a.data.toList b.data.toList := by omega
    have tree := r_Shared_eq a b (comL a.data.toList b.data.toList : Nat)
    refine .done _ _ ?_
    rcases Nat.lt_or_ge (comL a.data.toList b.data.toList) a.size with h1 | h1
    · rcases Nat.lt_or_ge (comL a.data.toList b.data.toList) b.size with h2 | h2
      · have hne := comL_at a.data.toList b.data.toList (by rw [← size_len]; exact h1) (by rw [← size_len]; exact h2)
        have e : (((a.data.toList.getD (comL a.data.toList b.data.toList) 0).toNat : Int) == ((b.data.toList.getD (comL a.data.toList b.data.toList) 0).toNat : Int)) = false := by
          rw [beq_eq_false_iff_ne]
          intro he
          exact hne (UInt8.toNat.inj (by omega))
        rw [Int.toNat_natCast, e, dT (by omega), dT (by omega), dT (by omega)] at tree
        exact tree.trans rfl
      · rw [dT (by omega), dF (by omega)] at tree
        exact tree.trans rfl
    · rw [dF (by omega)] at tree
      exact tree.trans rfl
  | succ m ih =>
    intro i hm
    have ih' := ih (i + 1) (by omega)
    have tree := r_Shared_eq a b i
    have e := comL_lt a.data.toList b.data.toList i (by omega)
    have e2 : (((a.data.toList.getD i 0).toNat : Int) == ((b.data.toList.getD i 0).toNat : Int)) = true := by rw [e]; exact beq_self_eq_true _
    have w1 : IntKind.wrap .i64 ((i : Int) + 1) = ((i + 1 : Nat) : Int) := wrap1 (by omega)
    rw [Int.toNat_natCast, e2, w1, dT (by omega), dT (by omega), dT (by omega)] at tree
    exact .step _ _ _ (tree.trans rfl) ih'
theorem ok_Shared : EntryOk Tryz.prog 32 E_Shared := entry_of mix (tab := []) trivial (lp := lp_Shared) (LO := LO_Shared) ⟨Tryz.func32, by kernel_rfl, by kernel_rfl⟩ (by kernel_rfl) fun ivs res bxs h => by
  unfold E_Shared at h
  split at h
  · rename_i a b
    obtain ⟨hc, he⟩ := pick1 h
    cases he
    refine ⟨oneLoop 2 (by kernel_rfl) (by kernel_rfl) (by kernel_rfl) ?_, (q_Shared_eq a b).trans ?_⟩
    · intro ls e ls' hl
      unfold LO_Shared at hl
      split at hl
      · rename_i a b i
        obtain ⟨hc, he⟩ := pick1 hl
        cases he
        rw [Bool.and_eq_true, decide_eq_true_eq, beq_iff_eq] at hc
        rw [hc.1]
        exact Shared_loop a b hc.2 _ 0 (Nat.zero_add _)
      · cases hl
    · rw [hc]
      rfl
  · cases h
theorem ok_long2 : EntryOk Tryz.prog 26 E_long2 := entry_of mix (tab := []) trivial (lp := []) (LO := LO0) ⟨Tryz.func26, by kernel_rfl, by kernel_rfl⟩ (by kernel_rfl) fun ivs res bxs h => by
  unfold E_long2 at h
  split at h
  · rename_i n l m k
    obtain ⟨hc, he⟩ := pick1 h
    cases he
    refine ⟨noLoop (by kernel_rfl), (q_long2_eq n m l k).trans ?_⟩
    cases decide ((n : Int) > 1048576) <;> rfl
  · cases h
theorem ok_lab5 : EntriesOk Tryz.prog lab5 := ⟨ok_long2, ok_DrawKey, ok_KeyOf, ok_SNameOk, ok_SubsOk, ok_KeyPlace, ok_Shared, ok_SSameSubs, ok_SSubsBefore, trivial⟩
theorem fc_any (n m : Nat) (l k : List PV) (hw : wfB n l = true) (hk : wfB m k = true) : q_fc brC n m l k = some (cB true, []) := by
  have tree := q_fc_eq n m l k
  by_cases hn : (n : Int) > 1048576
  · rw [dT hn] at tree
    exact tree.trans rfl
  by_cases hm : (m : Int) > 1048576
  · rw [dF hn, dT hm] at tree
    exact tree.trans rfl
  have hn' : n ≤ 1048577 := by omega
  have hm' : m ≤ 1048577 := by omega
  have rX := keyV_ok hw hn'
  have rY := keyV_ok hk hm'
  rw [dF hn, dF hm, hw, hk, dT hn', dT hm'] at tree
  generalize keyV n l = X at tree rX
  generalize keyV m k = Y at tree rY
  obtain ⟨s, xs⟩ := X
  obtain ⟨t, ys⟩ := Y
  obtain ⟨x1, x2⟩ := rX
  obtain ⟨y1, y2⟩ := rY
  have x1 : s.size ≤ 1000000 := x1
  have y1 : t.size ≤ 1000000 := y1
  have x2 : shL xs := x2
  have y2 : shL ys := y2
  have e1 : isL (PV.sl xs.length (xs.map .str)) = true := isL_mk x2
  have e2 : asL (PV.sl xs.length (xs.map .str)) = xs := asL_mk xs
  have e3 : isL (PV.sl ys.length (ys.map .str)) = true := isL_mk y2
  have e4 : asL (PV.sl ys.length (ys.map .str)) = ys := asL_mk ys
  have f0 : ∀ (u : ByteArray) (us : List ByteArray), ((bs (keyL u us)).toList == ([] : List UInt8)) = false := fun u us => by
    rw [toList_nil]
    unfold keyL
    cases u.data.toList <;> rfl
  have g0 : (([] : List UInt8) == []) = true := rfl
  dsimp only at tree
  simp only [e1, e2, e3, e4, f0, g0, dT x1, dT y1, Bool.true_and, Bool.and_true] at tree
  cases hX : placeB s xs with
  | false =>
    rw [hX] at tree
    have h0 : nameB s = false ∨ subsB xs = false := by
      unfold placeB at hX
      rwa [Bool.and_eq_false_iff] at hX
    cases hY : placeB t ys <;> rw [hY] at tree <;>
      · cases hN : nameB s with
        | false => rw [hN] at tree; exact tree.trans rfl
        | true =>
          rw [hN] at h0
          rcases h0 with h0 | h0
          · cases h0
          · rw [hN, h0] at tree
            exact tree.trans rfl
  | true =>
    obtain ⟨n1, n2⟩ := placeB_inv hX
    rw [hX] at tree
    cases hY : placeB t ys with
    | false =>
      rw [hY, n1, n2] at tree
      exact tree.trans rfl
    | true =>
      obtain ⟨m1, m2⟩ := placeB_inv hY
      have lK := keyL_len hX
      have lL := keyL_len hY
      have i1 : holds (isKey (bs (keyL s xs))) = true := holds_mk ⟨(s, xs), bs_data _, hX⟩
      have i2 := decK_key hX
      have q1 : (s.toList == s.toList) = true := by simp
      have q2 : sameX xs xs = true := holds_mk rfl
      have hlt : Op.bytesLess (bs (keyL s xs)).toList (bs (keyL t ys)).toList = if s = t then subsLt xs ys else byteLt s.data.toList t.data.toList := by
        rw [less_eq, bs_data, bs_data, keyL_lt n1 m1]
      obtain ⟨c1, c2⟩ := comL_le (keyL s xs) (keyL t ys)
      have hfull := (comL_full (keyL s xs) (keyL t ys)).trans (keyL_pre n1 m1)
      have hat := comL_at (keyL s xs) (keyL t ys)
      have htk := comL_take (keyL s xs) (keyL t ys)
      have q3 : ((((bs (keyL s xs)).extract 0 (comL (keyL s xs) (keyL t ys))).toList) == (((bs (keyL t ys)).extract 0 (comL (keyL s xs) (keyL t ys))).toList)) = true := by
        rw [extract_bs, extract_bs, bs_data, bs_data, List.drop_zero, List.drop_zero, Nat.sub_zero, htk, beq_self_eq_true]
      rw [hY] at tree
      simp only [i1, i2, q1, q2, q3, Int.toNat_natCast, bs_len, bs_data, e1, e2] at tree
      generalize keyL s xs = K at *
      generalize keyL t ys = L at *
      generalize hc : comL K L = c at *
      simp (disch := omega) only [dT, dF, Bool.true_and, Bool.and_true] at tree
      have hp : decide ((c : Int) < (K.length : Int)) = false ∨ (decide ((c : Int) < (K.length : Int)) = true ∧ decide ((c : Int) < (L.length : Int)) = false) ∨ (decide ((c : Int) < (K.length : Int)) = true ∧ decide ((c : Int) < (L.length : Int)) = true ∧ (((K.getD c 0).toNat : Int) == ((L.getD c 0).toNat : Int)) = false) := by
        rcases Nat.lt_or_ge c K.length with h | h
        · rcases Nat.lt_or_ge c L.length with h2 | h2
          · refine .inr (.inr ⟨dT (by omega), dT (by omega), ?_⟩)
            rw [beq_eq_false_iff_ne]
            intro he
            exact hat h h2 (UInt8.toNat.inj (by omega))
          · exact .inr (.inl ⟨dT (by omega), dF (by omega)⟩)
        · exact .inl (dF (by omega))
      have nofull : ¬ (s = t ∧ xs.length ≤ ys.length ∧ List.take xs.length ys = xs) → ((c : Int) == (K.length : Int)) = false := fun h => by
        rw [beq_eq_false_iff_ne]
        intro he
        exact h (hfull.1 (by omega))
      by_cases st : s = t
      · have hs : Op.bytesLess s.toList t.toList = false := by rw [← st]; exact strLt_irrefl s
        have hq : (s.toList == t.toList) = true := by rw [← st]; exact q1
        rw [if_pos st] at hlt
        by_cases hl : xs.length ≤ ys.length
        · have z1 : PV.sl (xs.length - 0) (List.take ((xs.length - 0) * 1) (List.drop (0 * 1) (List.map PV.str ys))) = PV.sl (ys.take xs.length).length ((ys.take xs.length).map .str) := by
            rw [List.length_take, Nat.min_eq_left hl, Nat.sub_zero, Nat.mul_one, Nat.zero_mul, List.drop_zero, List.map_take]
          have z2 : isL (PV.sl (ys.take xs.length).length ((ys.take xs.length).map .str)) = true := isL_mk ⟨Nat.le_trans (List.length_take_le' _ _) y2.1, fun u hu => y2.2 u (List.mem_of_mem_take hu)⟩
          have z3 : asL (PV.sl (ys.take xs.length).length ((ys.take xs.length).map .str)) = ys.take xs.length := asL_mk _
          have qc : ((c : Int) == (K.length : Int)) = sameX (ys.take xs.length) xs := by
            by_cases he : ys.take xs.length = xs
            · rw [show sameX (ys.take xs.length) xs = true from holds_mk he, hfull.2 ⟨st, hl, he⟩, beq_self_eq_true]
            · rw [nofull (fun h => he h.2.2)]
              cases hx : sameX (ys.take xs.length) xs with
              | false => rfl
              | true => exact absurd (holds_inv hx) he
          simp (disch := omega) only [hs, hq, z1, z2, z3, qc, hlt, dT, beq_self_eq_true] at tree
          rw [n1, n2] at tree
          rcases hp with h | ⟨h1, h2⟩ | ⟨h1, h2, h3⟩
          · rw [h] at tree; exact tree.trans rfl
          · rw [h1, h2] at tree; exact tree.trans rfl
          · rw [h1, h2, h3] at tree; exact tree.trans rfl
        · have qc := nofull (fun h => hl h.2.1)
          clear hfull
          simp (disch := omega) only [hs, hq, qc, hlt, dT, dF, beq_self_eq_true] at tree
          rw [n1, n2] at tree
          rcases hp with h | ⟨h1, h2⟩ | ⟨h1, h2, h3⟩
          · rw [h] at tree; exact tree.trans rfl
          · rw [h1, h2] at tree; exact tree.trans rfl
          · rw [h1, h2, h3] at tree; exact tree.trans rfl
      · have hq : (s.toList == t.toList) = false := sEq_false.2 st
        have qc := nofull (fun h => st h.1)
        rw [if_neg st, ← less_eq] at hlt
        cases hs : Op.bytesLess s.toList t.toList <;>
          · rw [hs] at hlt
            simp only [hs, hq, qc, hlt, beq_self_eq_true] at tree
            rw [n1, n2] at tree
            rcases hp with h | ⟨h1, h2⟩ | ⟨h1, h2, h3⟩
            · rw [h] at tree; exact tree.trans rfl
            · rw [h1, h2] at tree; exact tree.trans rfl
            · rw [h1, h2, h3] at tree; exact tree.trans rfl
end

section
open Go.RowKit Go.ChangeShapes Go.WideShapes
set_option linter.unusedVariables false
set_option linter.unusedSimpArgs false

theorem row_top {w : World} {b : Nat} {xs : List Value} (h : ∃ t f, w.heap[b]? = some (.cells xs.toArray t f)) : GlRow w (comTop w) b xs := by
  obtain ⟨t, f, h⟩ := h
  refine ⟨⟨t, f, h⟩, ?_⟩
  unfold comTop
  rw [h]
  simp
theorem tabIs_row {w : World} {name : String} {g : Nat} {k : IntKind} {zs : List Int} (hg : Tryz.prog.globalNamed name = some g) (h : Lib.TabIs Tryz.prog w name k zs) : GlRow w (comTop w) g (zs.map fun z => Value.int k z) := by
  unfold Lib.TabIs World.var? at h
  rw [hg] at h
  dsimp only [Option.bind_some] at h
  split at h
  · rename_i cs t f hb
    cases h
    exact row_top ⟨t, f, hb⟩
  · cases h
theorem gl_top {w : World}
  (hm : ∃ m : Int, w.cell? ⟨0, 0, none⟩ = some (.int .i64 m))
  (ht : Lib.TabIs Tryz.prog w "internal/strconv.uint64pow10" .u64 Lib.pow10Tab)
  : Gl w (comTop w) := by
  unfold Gl
  refine ⟨?_, ?_⟩
  · obtain ⟨m, hm⟩ := hm
    exact ⟨m, hm, comTop_at hm⟩
  refine ⟨tabIs_row (by kernel_rfl) ht, ?_⟩
  trivial
/-- Bytes as an argument of a law. -/
theorem bytes_pv {w : World} {a : Option Addr} {len cap : Nat} {zs : List Int}
    (h : (a = none ∧ len = 0 ∧ cap = 0 ∧ zs = []) ∨ ∃ x, a = some x ∧ len ≤ cap ∧ cap ≤ maxLen ∧ zs.length = cap ∧ (∀ i, i < zs.length → w.cell? (x.add i) = some (.int .u8 (zs.getD i 0))) ∧ ∀ n ∈ zs, (Lit.int .u8 n).wf = true) :
    ∃ n l, PRep w (comTop w) (.slice a len cap) (.sl n l) ∧ wfB n l = true := by
  rcases h with ⟨rfl, rfl, rfl, rfl⟩ | ⟨x, rfl, hlc, hm, hz, hc, hw⟩
  · exact ⟨0, [], .sl0 none 0, rfl⟩
  · by_cases h0 : len = 0
    · subst h0
      exact ⟨0, [], .sl0 _ _, rfl⟩
    obtain ⟨b, off, spot⟩ := x
    have hc0 := hc 0 (by omega)
    have hspot : spot = none := by simpa [Addr.add] using World.cell?_spot hc0
    subst hspot
    have hcell : ∀ i, i < zs.length → w.cell? ⟨b, off + i, none⟩ = some (.int .u8 (zs.getD i 0)) := by
      intro i hi
      have := hc i hi
      have ea : (⟨b, off, none⟩ : Addr).add i = ⟨b, off + i, none⟩ := by unfold Addr.add; split <;> simp_all
      rwa [ea] at this
    have hr : ∀ z ∈ zs, 0 ≤ z ∧ z < 256 := by
      intro z hzm
      have hb := bounds_u8 (hw z hzm)
      omega
    refine ⟨len, (zs.take len).map fun z => .int .u8 z, .sl b off len cap ((zs.take len).map fun z => .int .u8 z) _ hlc (by simp) (fun v hv => ?_) (fun i hi => ?_) (fun i v hv => ?_) (fun i h1 h2 => ?_), ?_⟩
    · obtain ⟨z, _, rfl⟩ := List.mem_map.1 hv
      rfl
    · simp at hi
      exact comTop_at (hcell i (by omega))
    · rw [List.getElem?_map, Option.map_eq_some_iff] at hv
      obtain ⟨z, hz', rfl⟩ := hv
      rw [List.getElem?_take] at hz'
      split at hz'
      · have hi := (List.getElem?_eq_some_iff.1 hz').1
        rw [hcell i hi, List.getD_eq_getElem?_getD, hz']
        rfl
      · cases hz'
    · simp only [List.getElem_map]
      exact .int _ _
    · unfold wfB
      rw [Bool.and_eq_true]
      refine ⟨?_, ?_⟩
      · have : ((zs.take len).map fun z => PV.int .u8 z).length = len := by simp; omega
        rw [this]
        exact Nat.beq_refl _
      · rw [List.all_eq_true]
        intro p hp
        obtain ⟨z, hzm, rfl⟩ := List.mem_map.1 hp
        obtain ⟨h1, h2⟩ := hr z (List.mem_of_mem_take hzm)
        show (decide (IntKind.u8 = IntKind.u8) && decide (0 ≤ z) && decide (z < 256)) = true
        rw [decide_eq_true rfl, decide_eq_true h1, decide_eq_true h2]
        rfl
end

section
open Go.RowKit
set_option linter.unusedVariables false
theorem FnCompress_walk (v : Value) (n : Nat) (l : List PV) (v' : Value) (m : Nat) (k : List PV) (w : World) (hv : PRep w (comTop w) v (.sl n l)) (hw : wfB n l = true) (hv' : PRep w (comTop w) v' (.sl m k)) (hw' : wfB m k = true) (hgl : Gl w (comTop w)) :
    Calls Tryz.prog 5 #[v, v'] w fun e w' => e = .returned (.bool true) ∧ Below w.heap.size w w' := by
  have hc : Contract Tryz.prog 5 ([.sl n l, .sl m k].map fun p => .cv (.pv p)) (.cv (.pv (.bool true))) [] :=
    fun_okB mix (tabL_ok (l := lab5) ok_lab5) (O := OL []) (LO := LO0) ⟨Tryz.func5, by kernel_rfl, by kernel_rfl⟩ (by kernel_rfl) rfl (noLoop (by kernel_rfl)) (fc_any n m l k hw hw')
  exact hc.lawTop (w := w) (vals := [v, v']) (PReps.cons hv (PReps.cons hv' (PReps.nil _ _))) hgl
end
end Go.Proofs.YtjbjgeekglpmlaaGreatDoor
