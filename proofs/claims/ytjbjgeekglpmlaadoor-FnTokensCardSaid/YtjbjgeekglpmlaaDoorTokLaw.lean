/- Plain: tokens of a line. -/
import Derived.Test.YtjbjgeekglpmlaaDoorNumLaw
import Derived.Test.YtjbjgeekglpmlaaDoorPiecesLaw
import Derived.Test.YtjbjgeekglpmlaaDoorName
import Derived.Lib.Replace
namespace Go.Proofs.YtjbjgeekglpmlaaDoor
set_option linter.unusedVariables false

def nameCh (c : UInt8) : Bool := letterB c.toNat || digitB c.toNat
def nameLen (l : List UInt8) : Nat := 1 + ((l.drop 1).takeWhile nameCh).length
def numLen (l : List UInt8) : Nat :=
  if l[(l.takeWhile isDig).length]? = some 46 then (l.takeWhile isDig).length + (1 + ((l.drop ((l.takeWhile isDig).length + 1)).takeWhile isDig).length) else (l.takeWhile isDig).length
/-- What stands in quotes behind the first one: the text, and how many bytes are read. -/
def qR : List UInt8 → Option (List UInt8 × Nat)
  | [] => none
  | [c] => if c = 34 then some ([], 1) else none
  | c :: d :: l => if c = 34 then (if d = 34 then (qR l).map (fun x => (34 :: x.1, x.2 + 2)) else some ([], 1)) else (qR (d :: l)).map (fun x => (c :: x.1, x.2 + 1))
def qN (l : List UInt8) : Nat := match qR l with | some x => x.2 + 1 | none => 0
def qT (l : List UInt8) : List UInt8 := match qR l with | some x => x.1 | none => []
def twoS : List (List UInt8) := [[93, 93], [39, 61], [39, 60], [39, 62], [39, 91], [39, 93], [36, 36]]
def oneS : List UInt8 := [40, 41, 44, 58, 43, 45, 42, 47, 92, 35, 95, 61, 60, 62, 91, 93, 38, 33, 39, 63, 64, 94, 36, 46]
def isTwo (l : List UInt8) : Bool := twoS.any (fun x => x.isPrefixOf l)
def signLen (l : List UInt8) : Nat := if isTwo l = true then 2 else if oneS.contains (l.headD 0) = true then 1 else 0
def headDig (l : List UInt8) : Bool := match l with | [] => false | c :: _ => isDig c
def isName (c : UInt8) : Bool := letterB c.toNat || c == 37
def isNumT (l : List UInt8) : Bool := isDig (l.headD 0) || (l.headD 0 == 46 && headDig (l.drop 1))
def tokK (l : List UInt8) : Int := if l.headD 0 = 32 then 5 else if l.headD 0 = 34 then 3 else if isName (l.headD 0) = true then 1 else if isNumT l = true then 2 else 4
def tokN (l : List UInt8) : Nat := if l.headD 0 = 32 then 1 else if l.headD 0 = 34 then qN (l.drop 1) else if isName (l.headD 0) = true then nameLen l else if isNumT l = true then numLen l else signLen l
def tokT (l : List UInt8) : List UInt8 := if l.headD 0 = 34 then qT (l.drop 1) else l.take (tokN l)

theorem qR_len : ∀ (l : List UInt8) (x : List UInt8) (n : Nat), qR l = some (x, n) → n ≤ l.length ∧ 1 ≤ n
  | [], x, n, h => by cases h
  | [c], x, n, h => by
    unfold qR at h
    split at h
    · cases h; simp
    · cases h
  | c :: d :: l, x, n, h => by
    unfold qR at h
    split at h
    · split at h
      · rw [Option.map_eq_some_iff] at h
        obtain ⟨⟨y, m⟩, h1, h2⟩ := h
        cases h2
        have := qR_len l y m h1
        simp; omega
      · cases h; simp
    · rw [Option.map_eq_some_iff] at h
      obtain ⟨⟨y, m⟩, h1, h2⟩ := h
      cases h2
      have := qR_len (d :: l) y m h1
      simp at this ⊢; omega
/-- Quotes doubled. -/
def dbl : List UInt8 → List UInt8
  | [] => []
  | c :: l => if c = 34 then 34 :: 34 :: dbl l else c :: dbl l
theorem qR_take : ∀ (l : List UInt8) (x : List UInt8) (n : Nat), qR l = some (x, n) → dbl x ++ [34] = l.take n
  | [], x, n, h => by cases h
  | [c], x, n, h => by
    unfold qR at h
    split at h
    · rename_i hc
      cases h; rw [hc]; rfl
    · cases h
  | c :: d :: l, x, n, h => by
    unfold qR at h
    split at h
    · rename_i hc
      split at h
      · rename_i hd
        rw [Option.map_eq_some_iff] at h
        obtain ⟨⟨y, m⟩, h1, h2⟩ := h
        cases h2
        have := qR_take l y m h1
        show (if (34 : UInt8) = 34 then 34 :: 34 :: dbl y else 34 :: dbl y) ++ [34] = _
        rw [if_pos rfl, hc, hd, List.take_succ_cons, List.take_succ_cons, ← this]; rfl
      · cases h; rw [hc]; rfl
    · rename_i hc
      rw [Option.map_eq_some_iff] at h
      obtain ⟨⟨y, m⟩, h1, h2⟩ := h
      cases h2
      have := qR_take (d :: l) y m h1
      show (if c = 34 then 34 :: 34 :: dbl y else c :: dbl y) ++ [34] = _
      rw [if_neg hc, List.take_succ_cons, ← this]; rfl
theorem qR_dbl : ∀ (s : List UInt8), qR (dbl s ++ [34]) = some (s, (dbl s).length + 1)
  | [] => rfl
  | c :: s => by
    have ih := qR_dbl s
    by_cases hc : c = 34
    · have e : dbl (c :: s) = 34 :: 34 :: dbl s := by show (if c = 34 then _ else _) = _; rw [if_pos hc]
      rw [e]
      show qR (34 :: 34 :: (dbl s ++ [34])) = _
      unfold qR
      rw [if_pos rfl, if_pos rfl, ih, hc]; rfl
    · have e : dbl (c :: s) = c :: dbl s := by show (if c = 34 then _ else _) = _; rw [if_neg hc]
      rw [e]
      show qR (c :: (dbl s ++ [34])) = _
      cases hd : dbl s ++ [34] with
      | nil => simp at hd
      | cons d l =>
        unfold qR
        rw [if_neg hc, ← hd, ih]; rfl
theorem dbl_append (a b : List UInt8) : dbl (a ++ b) = dbl a ++ dbl b := by
  induction a with
  | nil => rfl
  | cons c a ih =>
    show (if c = 34 then 34 :: 34 :: dbl (a ++ b) else c :: dbl (a ++ b)) = (if c = 34 then 34 :: 34 :: dbl a else c :: dbl a) ++ dbl b
    by_cases h : c = 34
    · rw [if_pos h, if_pos h, ih]; rfl
    · rw [if_neg h, if_neg h, ih]; rfl
theorem dbl_none {a : List UInt8} (h : ∀ c ∈ a, c ≠ 34) : dbl a = a := by
  induction a with
  | nil => rfl
  | cons c a ih =>
    show (if c = 34 then _ else c :: dbl a) = _
    rw [if_neg (h c (by simp)), ih (fun x hx => h x (List.mem_cons_of_mem _ hx))]
theorem index_none_mem {s : List UInt8} (h : Lib.index s [34] = -1) : ∀ c ∈ s, c ≠ 34 := by
  induction s with
  | nil => intro c hc; cases hc
  | cons b l ih =>
    unfold Lib.index at h
    split at h
    · omega
    · rename_i hp
      have hge := Lib.index_ge l [34]
      have hl : Lib.index l [34] = -1 := by
        split at h
        · rename_i h2; exact beq_iff_eq.1 h2
        · omega
      intro c hc
      rcases List.mem_cons.1 hc with rfl | hc
      · intro e
        subst e
        exact hp (by simp [List.isPrefixOf])
      · exact ih hl c hc
theorem replaceK_dbl : ∀ (k : Nat) (s : List UInt8), k = Lib.count s [34] → Lib.replaceK [34] [34, 34] k s = dbl s
  | 0, s, hk => by
    have hm : Lib.index s [34] = -1 := by
      have hge := Lib.index_ge s [34]
      by_cases h : Lib.index s [34] = -1
      · exact h
      · have h2 := Lib.count_hit (s := s) (sub := [34]) (i := (Lib.index s [34]).toNat) (by simp) (by omega)
        omega
    exact (dbl_none (index_none_mem hm)).symm
  | k + 1, s, hk => by
    have hge := Lib.index_ge s [34]
    have hne : Lib.index s [34] ≠ -1 := fun e => by
      have := Lib.count_miss e
      omega
    obtain ⟨i, hi⟩ : ∃ i : Nat, Lib.index s [34] = (i : Int) := ⟨(Lib.index s [34]).toNat, by omega⟩
    have hc := Lib.count_hit (s := s) (sub := [34]) (by simp) hi
    have ih := replaceK_dbl k (s.drop (i + 1)) (by have : ([34] : List UInt8).length = 1 := rfl; rw [this] at hc; omega)
    rw [Lib.replaceK_hit _ _ _ _ i hi]
    have hs := occ_take (index_occ hi).1
    have h1 : dbl (s.take i) = s.take i := dbl_none (index_none_mem (index_take (by simp) hi))
    conv => rhs; rw [← hs]
    rw [dbl_append, h1]
    show s.take i ++ [34, 34] ++ Lib.replaceK [34] [34, 34] k (s.drop (i + 1)) = s.take i ++ dbl (34 :: s.drop (i + 1))
    rw [ih, List.append_assoc]
    rfl
theorem replaceAll_dbl (s : List UInt8) : Lib.replaceAll s [34] [34, 34] = dbl s := by
  unfold Lib.replaceAll Lib.replace
  rw [if_neg (by decide)]
  unfold Lib.replaceNum
  rw [if_pos (by left; decide)]
  exact replaceK_dbl _ s rfl
theorem dbl_len (s : List UInt8) : (dbl s).length ≤ 2 * s.length := by
  induction s with
  | nil => simp [dbl]
  | cons c s ih =>
    show (if c = 34 then 34 :: 34 :: dbl s else c :: dbl s).length ≤ _
    split <;> simp <;> omega

/- tokens -/
theorem tw_len_le (p : UInt8 → Bool) (l : List UInt8) : (l.takeWhile p).length ≤ l.length := by
  have := congrArg List.length (List.takeWhile_append_dropWhile (p := p) (l := l))
  rw [List.length_append] at this
  omega
theorem tokN_le {l : List UInt8} (h : l ≠ []) : tokN l ≤ l.length := by
  have hpos : 0 < l.length := List.length_pos_iff.2 h
  unfold tokN
  split
  · omega
  · split
    · unfold qN
      split
      · rename_i x hx
        have := (qR_len _ _ _ hx).1
        rw [List.length_drop] at this
        omega
      · omega
    · split
      · unfold nameLen
        have := tw_len_le nameCh (l.drop 1)
        rw [List.length_drop] at this
        omega
      · split
        · unfold numLen
          have h1 := tw_len_le isDig l
          split
          · rename_i hx
            have h2 := tw_len_le isDig (l.drop ((l.takeWhile isDig).length + 1))
            rw [List.length_drop] at h2
            have h3 : (l.takeWhile isDig).length < l.length := by
              rcases Nat.lt_or_ge (l.takeWhile isDig).length l.length with h | h
              · exact h
              · rw [List.getElem?_eq_none h] at hx; cases hx
            omega
          · exact h1
        · unfold signLen
          split
          · rename_i hx
            unfold isTwo at hx
            obtain ⟨x, hx1, hx2⟩ := List.any_eq_true.1 hx
            have h1 := (List.isPrefixOf_iff_prefix.1 hx2).length_le
            have : x.length = 2 := by
              have hall : twoS.all (fun x => x.length == 2) = true := by decide
              exact beq_iff_eq.1 (List.all_eq_true.1 hall x hx1)
            omega
          · split <;> omega
/-- The text of a token as it is written. -/
def tokW (k : Int) (t : List UInt8) : List UInt8 := if k = 3 then 34 :: (dbl t ++ [34]) else t
theorem tokW_take {l : List UInt8} (h : l ≠ []) (hn : tokN l ≠ 0) : tokW (tokK l) (tokT l) = l.take (tokN l) := by
  cases l with
  | nil => exact absurd rfl h
  | cons c l =>
    by_cases h32 : c = 32
    · have hk : tokK (c :: l) = 5 := by show (if c = 32 then (5 : Int) else _) = 5; rw [if_pos h32]
      have ht : tokT (c :: l) = (c :: l).take (tokN (c :: l)) := by
        show (if c = 34 then _ else _) = _
        rw [if_neg (by rw [h32]; decide)]
      unfold tokW
      rw [hk, ht, if_neg (by decide)]
    · by_cases h34 : c = 34
      · have hk : tokK (c :: l) = 3 := by show (if c = 32 then (5 : Int) else if c = 34 then 3 else _) = 3; rw [if_neg h32, if_pos h34]
        have hN : tokN (c :: l) = qN l := by show (if c = 32 then 1 else if c = 34 then qN l else _) = qN l; rw [if_neg h32, if_pos h34]
        have ht : tokT (c :: l) = qT l := by show (if c = 34 then qT l else _) = _; rw [if_pos h34]
        unfold tokW
        rw [hk, ht, if_pos rfl, hN]
        rw [hN] at hn
        unfold qN at hn ⊢
        unfold qT
        cases hq : qR l with
        | none => rw [hq] at hn; exact absurd rfl hn
        | some x =>
          obtain ⟨x, n⟩ := x
          show 34 :: (dbl x ++ [34]) = (c :: l).take (n + 1)
          rw [qR_take l x n hq, List.take_succ_cons, h34]
      · have hk : tokK (c :: l) ≠ 3 := by
          show (if c = 32 then (5 : Int) else if c = 34 then 3 else if isName c = true then 1 else if isNumT (c :: l) = true then 2 else 4) ≠ 3
          rw [if_neg h32, if_neg h34]
          split
          · decide
          · split <;> decide
        have ht : tokT (c :: l) = (c :: l).take (tokN (c :: l)) := by
          show (if c = 34 then _ else _) = _
          rw [if_neg h34]
        unfold tokW
        rw [if_neg hk, ht]

/-- All tokens from a place on. -/
def toks (p : Nat) (l : List UInt8) : Option (List (Int × List UInt8 × Nat)) :=
  if h : l = [] then some [] else if h2 : tokN l = 0 then none else (toks (p + tokN l) (l.drop (tokN l))).map (fun r => (tokK l, tokT l, p) :: r)
termination_by l.length
decreasing_by
  have := List.length_pos_iff.2 h
  rw [List.length_drop]
  omega
theorem toks_nil (p : Nat) : toks p [] = some [] := by rw [toks]; simp
theorem toks_bad {l : List UInt8} (p : Nat) (h : l ≠ []) (h2 : tokN l = 0) : toks p l = none := by rw [toks, dif_neg h, dif_pos h2]
theorem toks_step {l : List UInt8} (p : Nat) (h : l ≠ []) (h2 : tokN l ≠ 0) : toks p l = (toks (p + tokN l) (l.drop (tokN l))).map (fun r => (tokK l, tokT l, p) :: r) := by
  rw [toks, dif_neg h, dif_neg h2]
/-- What tokens hold: their texts are the line, each begins where the one ahead of it ends. -/
theorem toks_law : ∀ (n : Nat) (l : List UInt8) (p : Nat) (ts : List (Int × List UInt8 × Nat)), l.length ≤ n → toks p l = some ts →
    (ts.map fun t => tokW t.1 t.2.1).flatten = l ∧ (∀ i (hi : i < ts.length), ts[i].2.2 = p + ((ts.take i).map fun t => tokW t.1 t.2.1).flatten.length) := by
  intro n
  induction n with
  | zero =>
    intro l p ts hl h
    have : l = [] := List.length_eq_zero_iff.1 (by omega)
    subst this
    rw [toks_nil] at h
    cases h
    exact ⟨rfl, fun i hi => by simp at hi⟩
  | succ n ih =>
    intro l p ts hl h
    by_cases h0 : l = []
    · subst h0
      rw [toks_nil] at h
      cases h
      exact ⟨rfl, fun i hi => by simp at hi⟩
    · by_cases h2 : tokN l = 0
      · rw [toks_bad p h0 h2] at h; cases h
      · rw [toks_step p h0 h2, Option.map_eq_some_iff] at h
        obtain ⟨r, hr, rfl⟩ := h
        have hle := tokN_le h0
        obtain ⟨h3, h4⟩ := ih _ _ r (by rw [List.length_drop]; omega) hr
        have hw := tokW_take h0 h2
        refine ⟨?_, ?_⟩
        · rw [List.map_cons, List.flatten_cons, h3]
          show tokW (tokK l) (tokT l) ++ _ = _
          rw [hw, List.take_append_drop]
        · intro i hi
          cases i with
          | zero => simp
          | succ i =>
            have hi' : i < r.length := by simpa using hi
            rw [List.getElem_cons_succ, h4 i hi', List.take_succ_cons, List.map_cons, List.flatten_cons, List.length_append]
            show _ = p + ((tokW (tokK l) (tokT l)).length + _)
            rw [hw, List.length_take]
            omega
end Go.Proofs.YtjbjgeekglpmlaaDoor
