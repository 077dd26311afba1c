/- Plain: the number that a text begins with, and the one text of a number; no program in sight. -/
import Derived.Lib.ItoaNum
namespace Go.Proofs.YtbknfkdjhajimaaGreatDoor
set_option linter.unusedVariables false

def isSign (c : UInt8) : Bool := c == 43 || c == 45
def isDig (c : UInt8) : Bool := decide (48 ≤ c.toNat) && decide (c.toNat ≤ 57)
def dval (c : UInt8) : Nat := c.toNat - 48
/-- The value of digits behind a number. -/
def valF (n : Nat) : List UInt8 → Nat
  | [] => n
  | c :: l => valF (10 * n + dval c) l
def maxNum : Nat := 999999999999999999
def fracOf : List UInt8 → List UInt8
  | [] => []
  | c :: t => if c = 46 then t.takeWhile isDig else []
def six : List UInt8 := [48, 48, 48, 48, 48, 48]
/-- The digits that count. -/
def numDigits (l : List UInt8) : List UInt8 :=
  (l.dropWhile isSign).takeWhile isDig ++ (fracOf ((l.dropWhile isSign).dropWhile isDig) ++ six).take 6
def negB (l : List UInt8) : Bool := decide ((l.takeWhile isSign).count 45 % 2 = 1)
def numOf (l : List UInt8) : Int :=
  if negB l = true then -((min (valF 0 (numDigits l)) maxNum : Nat) : Int) else ((min (valF 0 (numDigits l)) maxNum : Nat) : Int)

theorem numOf_range (l : List UInt8) : -999999999999999999 ≤ numOf l ∧ numOf l ≤ 999999999999999999 := by
  unfold numOf
  have h : min (valF 0 (numDigits l)) maxNum ≤ maxNum := Nat.min_le_right _ _
  have e : maxNum = 999999999999999999 := rfl
  split <;> omega

/-- Digits of a whole number, none of 0. -/
def wholeD (n : Nat) : List UInt8 :=
  if h : n = 0 then [] else wholeD (n / 10) ++ [UInt8.ofNat (48 + n % 10)]
termination_by n
decreasing_by omega

theorem wholeD_zero : wholeD 0 = [] := by rw [wholeD]; simp
theorem wholeD_pos {n : Nat} (h : n ≠ 0) : wholeD n = wholeD (n / 10) ++ [UInt8.ofNat (48 + n % 10)] := by rw [wholeD, dif_neg h]
theorem wholeD_dec {n : Nat} (h : n ≠ 0) : wholeD n = Lib.decDigits n := by
  induction n using Nat.strongRecOn with
  | _ n ih =>
    rw [wholeD_pos h, Lib.decDigits]
    by_cases h1 : n < 10
    · rw [dif_pos h1, show n / 10 = 0 by omega, wholeD_zero, show n % 10 = n by omega]; rfl
    · rw [dif_neg h1, ih (n / 10) (by omega) (by omega)]

def strip0 (l : List UInt8) : List UInt8 := (l.reverse.dropWhile (· == 48)).reverse
/-- The digits behind the point. -/
def fracD (r : Nat) : List UInt8 := (wholeD (1000000 + r)).drop 1
def body (m : Nat) : List UInt8 := wholeD (m / 1000000) ++ (if m % 1000000 = 0 then [] else 46 :: strip0 (fracD (m % 1000000)))
def bodyT (m : Nat) : List UInt8 := if m = 0 then [48] else body m
/-- The text of a number in range. -/
def textOf (n : Int) : List UInt8 := if n < 0 then 45 :: bodyT n.natAbs else bodyT n.natAbs
def inNum (n : Int) : Bool := decide (-999999999999999999 ≤ n) && decide (n ≤ 999999999999999999)
def numText (n : Int) : List UInt8 := if inNum n = true then textOf n else []
def canonB (l : List UInt8) : Bool := decide (textOf (numOf l) = l)

theorem numText_numOf (l : List UInt8) : numText (numOf l) = textOf (numOf l) := by
  have h := numOf_range l
  unfold numText inNum
  rw [decide_eq_true h.1, decide_eq_true h.2]; rfl

/- digits -/
theorem toNat_dig {k : Nat} (h : k < 10) : (UInt8.ofNat (48 + k)).toNat = 48 + k := by
  rw [UInt8.toNat_ofNat']; omega
theorem isDig_dig {k : Nat} (h : k < 10) : isDig (UInt8.ofNat (48 + k)) = true := by
  unfold isDig; rw [toNat_dig h, decide_eq_true (by omega), decide_eq_true (by omega)]; rfl
theorem dval_dig {k : Nat} (h : k < 10) : dval (UInt8.ofNat (48 + k)) = k := by unfold dval; rw [toNat_dig h]; omega
theorem wholeD_digs (n : Nat) : ∀ c ∈ wholeD n, isDig c = true := by
  induction n using Nat.strongRecOn with
  | _ n ih =>
    by_cases h : n = 0
    · rw [h, wholeD_zero]; simp
    · rw [wholeD_pos h]
      intro c hc
      rcases List.mem_append.1 hc with hc | hc
      · exact ih (n / 10) (by omega) c hc
      · rw [List.mem_singleton.1 hc]; exact isDig_dig (by omega)
theorem valF_append (n : Nat) (a b : List UInt8) : valF n (a ++ b) = valF (valF n a) b := by
  induction a generalizing n with
  | nil => rfl
  | cons c a ih => exact ih _
theorem valF_wholeD (n : Nat) : valF 0 (wholeD n) = n := by
  induction n using Nat.strongRecOn with
  | _ n ih =>
    by_cases h : n = 0
    · rw [h, wholeD_zero]; rfl
    · rw [wholeD_pos h, valF_append, ih (n / 10) (by omega)]
      show 10 * (n / 10) + dval _ = n
      rw [dval_dig (by omega)]; omega
theorem valF_shift (n : Nat) (l : List UInt8) : valF n l = n * 10 ^ l.length + valF 0 l := by
  induction l generalizing n with
  | nil => show n = n * 1 + 0; omega
  | cons c l ih =>
    show valF (10 * n + dval c) l = _
    rw [ih]
    have e : valF 0 (c :: l) = valF (10 * 0 + dval c) l := rfl
    rw [e, ih (10 * 0 + dval c), List.length_cons, Nat.pow_succ, Nat.add_mul, Nat.mul_zero, Nat.zero_add, Nat.add_assoc]
    congr 1
    rw [Nat.mul_comm 10 n, Nat.mul_assoc, Nat.mul_comm 10]
theorem wholeD_length {n k : Nat} (h : 10 ^ k ≤ n) (h2 : n < 10 ^ (k + 1)) : (wholeD n).length = k + 1 := by
  induction k generalizing n with
  | zero =>
    have h' : n ≠ 0 := by simp at h; omega
    rw [wholeD_pos h', show n / 10 = 0 by simp at h2; omega, wholeD_zero]; rfl
  | succ k ih =>
    have h0 : n ≠ 0 := by have : 0 < 10 ^ (k + 1) := Nat.pow_pos (by omega); omega
    have e1 : 10 ^ (k + 1) = 10 ^ k * 10 := Nat.pow_succ ..
    have e2 : 10 ^ (k + 1 + 1) = 10 ^ (k + 1) * 10 := Nat.pow_succ ..
    rw [wholeD_pos h0, List.length_append, ih (n := n / 10) (by omega) (by omega)]; rfl
theorem fracD_length {r : Nat} (h : r < 1000000) : (fracD r).length = 6 := by
  unfold fracD
  rw [List.length_drop, wholeD_length (k := 6) (by omega) (by omega)]
theorem wholeD_head {r : Nat} (h : r < 1000000) : wholeD (1000000 + r) = 49 :: fracD r := by
  have hl := wholeD_length (n := 1000000 + r) (k := 6) (by omega) (by omega)
  unfold fracD
  match hw : wholeD (1000000 + r), hl with
  | c :: t, hl =>
    have hv := valF_wholeD (1000000 + r)
    have hd := wholeD_digs (1000000 + r) c (by rw [hw]; simp)
    rw [hw] at hv
    have hv2 : valF (10 * 0 + dval c) t = 1000000 + r := hv
    have hl6 : t.length = 6 := by simpa using hl
    rw [valF_shift, hl6] at hv2
    have hb : valF 0 t < 1000000 := by
      have : ∀ (l : List UInt8), (∀ c ∈ l, isDig c = true) → valF 0 l < 10 ^ l.length := by
        intro l
        induction l with
        | nil => intro _; exact Nat.one_pos
        | cons c l ih =>
          intro hh
          have h1 := ih (fun x hx => hh x (List.mem_cons_of_mem _ hx))
          have h2 := hh c (by simp)
          unfold isDig at h2
          simp at h2
          show valF (10 * 0 + dval c) l < _
          rw [valF_shift, List.length_cons, Nat.pow_succ]
          have h3 : dval c ≤ 9 := by unfold dval; omega
          have h4 : (10 * 0 + dval c) * 10 ^ l.length ≤ 9 * 10 ^ l.length := Nat.mul_le_mul_right _ (by omega)
          omega
      have := this t (fun x hx => wholeD_digs (1000000 + r) x (by rw [hw]; exact List.mem_cons_of_mem _ hx))
      rwa [hl6] at this
    have h1 : dval c = 1 := by omega
    unfold isDig at hd
    simp at hd
    have hc : c.toNat = 49 := by unfold dval at h1; omega
    have : c = 49 := UInt8.toNat_inj.1 (by rw [hc]; rfl)
    rw [this]; rfl
theorem valF_fracD {r : Nat} (h : r < 1000000) : valF 0 (fracD r) = r := by
  have hv := valF_wholeD (1000000 + r)
  rw [wholeD_head h] at hv
  have hv2 : valF 1 (fracD r) = 1000000 + r := hv
  rw [valF_shift, fracD_length h] at hv2
  omega
theorem fracD_digs (r : Nat) : ∀ c ∈ fracD r, isDig c = true := fun c hc => wholeD_digs _ c (List.mem_of_mem_drop hc)

/- strip0 -/
theorem strip0_spec (l : List UInt8) : ∃ k, l = strip0 l ++ List.replicate k 48 := by
  unfold strip0
  have h := List.takeWhile_append_dropWhile (p := (· == (48 : UInt8))) (l := l.reverse)
  refine ⟨(l.reverse.takeWhile (· == 48)).length, ?_⟩
  have h2 : l.reverse.takeWhile (· == (48 : UInt8)) = List.replicate (l.reverse.takeWhile (· == 48)).length 48 := by
    apply List.eq_replicate_of_mem
    intro b hb
    have : ∀ (m : List UInt8), ∀ b ∈ m.takeWhile (· == 48), b = 48 := by
      intro m
      induction m with
      | nil => intro b hb; cases hb
      | cons x m ih =>
        intro b hb
        rw [List.takeWhile_cons] at hb
        split at hb
        · rename_i hx
          rcases List.mem_cons.1 hb with rfl | hb
          · exact beq_iff_eq.1 hx
          · exact ih b hb
        · cases hb
    exact this _ b hb
  have h3 := congrArg List.reverse h
  rw [List.reverse_append, List.reverse_reverse] at h3
  rw [h2] at h3
  rw [List.reverse_replicate] at h3
  exact h3.symm
theorem strip0_digs {l : List UInt8} (h : ∀ c ∈ l, isDig c = true) : ∀ c ∈ strip0 l, isDig c = true := by
  obtain ⟨k, hk⟩ := strip0_spec l
  intro c hc
  exact h c (by rw [hk]; exact List.mem_append_left _ hc)
theorem strip0_take {l : List UInt8} (h : l.length = 6) : (strip0 l ++ six).take 6 = l := by
  obtain ⟨k, hk⟩ := strip0_spec l
  have hl : (strip0 l).length + k = 6 := by have := congrArg List.length hk; simp at this; omega
  rw [List.take_append, List.take_of_length_le (by omega)]
  have h6 : six.take (6 - (strip0 l).length) = List.replicate k 48 := by
    rw [show 6 - (strip0 l).length = k by omega]
    have : six = List.replicate 6 48 := rfl
    rw [this, List.take_replicate, Nat.min_eq_left (by omega)]
  rw [h6]; exact hk.symm

/- reading a text again -/
theorem takeWhile_all {p : UInt8 → Bool} {a b : List UInt8} (ha : ∀ c ∈ a, p c = true) (hb : ∀ c, b.head? = some c → p c = false) : (a ++ b).takeWhile p = a ∧ (a ++ b).dropWhile p = b := by
  induction a with
  | nil =>
    cases b with
    | nil => exact ⟨rfl, rfl⟩
    | cons c b => have := hb c rfl; simp [this]
  | cons x a ih =>
    have hx := ha x (by simp)
    have := ih (fun c hc => ha c (List.mem_cons_of_mem _ hc))
    simp [hx, this.1, this.2]
theorem sign_of_dig {c : UInt8} (h : isDig c = true) : isSign c = false := by
  unfold isDig at h
  simp at h
  unfold isSign
  have h1 : c ≠ 43 := fun e => by rw [e] at h; simp at h
  have h2 : c ≠ 45 := fun e => by rw [e] at h; simp at h
  simp [h1, h2]

/-- What a body holds: digits, then nothing or a point and digits. -/
theorem bodyT_form (m : Nat) : ∃ a f : List UInt8, bodyT m = a ++ f ∧ (∀ c ∈ a, isDig c = true) ∧ (∀ c, f.head? = some c → c = 46) ∧ (fracOf f ++ six).take 6 = fracD (m % 1000000) ∧ valF 0 a = m / 1000000 ∧ bodyT m ≠ [] := by
  unfold bodyT
  by_cases h : m = 0
  · refine ⟨[48], [], ?_⟩
    rw [if_pos h, h]
    refine ⟨rfl, by simp [isDig], by simp, ?_, rfl, by simp⟩
    have : fracD (0 % 1000000) = [48, 48, 48, 48, 48, 48] := by
      unfold fracD
      simp [wholeD]
    rw [this]; rfl
  · rw [if_neg h]
    have hr : m % 1000000 < 1000000 := Nat.mod_lt _ (by omega)
    unfold body
    refine ⟨wholeD (m / 1000000), _, rfl, wholeD_digs _, ?_, ?_, valF_wholeD _, ?_⟩
    · intro c hc
      split at hc
      · cases hc
      · simpa using hc.symm
    · split
      · rename_i h0
        rw [h0]
        have : fracD 0 = [48, 48, 48, 48, 48, 48] := by
          unfold fracD
          simp [wholeD]
        rw [this]; rfl
      · have hd := strip0_digs (fracD_digs (m % 1000000))
        have ht := (takeWhile_all (p := isDig) (a := strip0 (fracD (m % 1000000))) (b := []) hd (by simp)).1
        rw [List.append_nil] at ht
        show ((if (46 : UInt8) = 46 then (strip0 (fracD (m % 1000000))).takeWhile isDig else []) ++ six).take 6 = _
        rw [if_pos rfl, ht]
        exact strip0_take (fracD_length hr)
    · intro hh
      split at hh
      · rename_i h0
        rw [List.append_nil] at hh
        have h2 : m / 1000000 ≠ 0 := by omega
        rw [wholeD_pos h2] at hh
        simp at hh
      · simp at hh

theorem head_of_form {a f : List UInt8} (ha : ∀ c ∈ a, isDig c = true) (hf : ∀ c, f.head? = some c → c = 46) : ∀ c, (a ++ f).head? = some c → isSign c = false := by
  intro c hc
  cases a with
  | nil => have := hf c hc; rw [this]; rfl
  | cons x a =>
    have : x = c := by simpa using hc
    rw [← this]; exact sign_of_dig (ha x (by simp))

theorem numDigits_of {s : List UInt8} {m : Nat} (hs : ∀ c ∈ s, isSign c = true) : valF 0 (numDigits (s ++ bodyT m)) = m ∧ (s ++ bodyT m).takeWhile isSign = s := by
  obtain ⟨a, f, he, ha, hf, hx, hv, _⟩ := bodyT_form m
  rw [he]
  have h1 := takeWhile_all (p := isSign) hs (head_of_form ha hf)
  have h2 := takeWhile_all (p := isDig) (a := a) (b := f) ha (fun c hc => by rw [hf c hc]; rfl)
  refine ⟨?_, h1.1⟩
  unfold numDigits
  rw [h1.2, h2.1, h2.2, hx, valF_append, hv, valF_shift, fracD_length (Nat.mod_lt _ (by omega)), valF_fracD (Nat.mod_lt _ (by omega))]
  omega

/-- A number is recovered from its text. -/
theorem numOf_textOf {n : Int} (h : -999999999999999999 ≤ n ∧ n ≤ 999999999999999999) : numOf (textOf n) = n := by
  unfold textOf
  have e : maxNum = 999999999999999999 := rfl
  by_cases hn : n < 0
  · rw [if_pos hn]
    have h1 := numDigits_of (s := [45]) (m := n.natAbs) (by simp [isSign])
    have hneg : negB (45 :: bodyT n.natAbs) = true := by
      unfold negB
      rw [show (45 :: bodyT n.natAbs) = [45] ++ bodyT n.natAbs from rfl, h1.2]; rfl
    unfold numOf
    rw [if_pos hneg, show (45 :: bodyT n.natAbs) = [45] ++ bodyT n.natAbs from rfl, h1.1]
    omega
  · rw [if_neg hn]
    have h1 := numDigits_of (s := []) (m := n.natAbs) (by simp)
    rw [List.nil_append] at h1
    have hneg : ¬ negB (bodyT n.natAbs) = true := by
      unfold negB
      rw [h1.2]; simp
    unfold numOf
    rw [if_neg hneg, h1.1]
    omega
theorem numText_ne (n : Int) : textOf n ≠ [] := by
  unfold textOf
  obtain ⟨_, _, _, _, _, _, _, h⟩ := bodyT_form n.natAbs
  split
  · simp
  · exact h

/- lengths -/
theorem wholeD_len_le {n k : Nat} (h : n < 10 ^ k) : (wholeD n).length ≤ k := by
  induction k generalizing n with
  | zero => have : n = 0 := by simpa using h
            rw [this, wholeD_zero]; simp
  | succ k ih =>
    by_cases h0 : n = 0
    · rw [h0, wholeD_zero]; simp
    · rw [wholeD_pos h0, List.length_append]
      have := ih (n := n / 10) (by rw [Nat.pow_succ] at h; omega)
      simp; omega
theorem strip0_len (l : List UInt8) : (strip0 l).length ≤ l.length := by
  obtain ⟨k, hk⟩ := strip0_spec l
  have := congrArg List.length hk
  simp at this; omega
theorem textOf_len {n : Int} (h : -999999999999999999 ≤ n ∧ n ≤ 999999999999999999) : (textOf n).length ≤ 20 := by
  have hb : (bodyT n.natAbs).length ≤ 19 := by
    unfold bodyT
    split
    · simp
    · unfold body
      rw [List.length_append]
      have h1 := wholeD_len_le (n := n.natAbs / 1000000) (k := 12) (by omega)
      split
      · simp; omega
      · have h2 := strip0_len (fracD (n.natAbs % 1000000))
        rw [fracD_length (Nat.mod_lt _ (by omega))] at h2
        simp; omega
  unfold textOf
  split
  · simp; omega
  · omega

/- The order. -/
def byteLt : List UInt8 → List UInt8 → Bool
  | _, [] => false
  | [], _ :: _ => true
  | a :: l, b :: m => if a = b then byteLt l m else decide (a.toNat < b.toNat)
def beforeB (a b : List UInt8) : Bool :=
  if canonB a = true then (if canonB b = true then decide (numOf a < numOf b) else true) else (if canonB b = true then false else byteLt a b)
/- The reference's loops, as functions of what is left. -/
def sgnR (b : Bool) : List UInt8 → Bool × List UInt8
  | [] => (b, [])
  | c :: l => if isSign c = true then sgnR (b != (c == 45)) l else (b, c :: l)
def digR (n : Nat) : List UInt8 → Nat × List UInt8
  | [] => (n, [])
  | c :: l => if isDig c = true then digR (min (10 * n + dval c) 1000000000000) l else (n, c :: l)
def frR (n u : Nat) : List UInt8 → Nat
  | [] => n
  | c :: l => if isDig c = true then frR (n + dval c * u) (u / 10) l else n
def scR (n : Nat) : List UInt8 → Nat
  | [] => n
  | c :: l => if (999999999999999999 - dval c) / 10 < n then 999999999999999999 else scR (10 * n + dval c) l
def fracR (n : Nat) : List UInt8 → Nat
  | [] => n
  | c :: t => if c = 46 then frR n 100000 t else n

theorem sgnR_eq (b : Bool) (l : List UInt8) : sgnR b l = ((b != negB l), l.dropWhile isSign) := by
  induction l generalizing b with
  | nil => cases b <;> rfl
  | cons c l ih =>
    unfold sgnR
    by_cases h : isSign c = true
    · rw [if_pos h, ih, List.dropWhile_cons, if_pos h]
      refine Prod.ext ?_ rfl
      unfold negB
      rw [List.takeWhile_cons, if_pos h, List.count_cons]
      show ((b != (c == 45)) != _) = _
      by_cases hc : c = 45
      · subst hc
        rw [show ((45 : UInt8) == 45) = true from rfl, if_pos rfl]
        by_cases hp : List.count 45 (List.takeWhile isSign l) % 2 = 1
        · rw [decide_eq_true hp, decide_eq_false (by omega)]; cases b <;> rfl
        · rw [decide_eq_false hp, decide_eq_true (by omega)]; cases b <;> rfl
      · rw [show (c == 45) = false from beq_eq_false_iff_ne.2 hc, if_neg (by simp), Nat.add_zero]
        cases b <;> rfl
    · rw [if_neg h, List.dropWhile_cons, if_neg h]
      refine Prod.ext ?_ rfl
      unfold negB
      rw [List.takeWhile_cons, if_neg h]
      cases b <;> rfl
theorem valF_mono {m n : Nat} (h : m ≤ n) (l : List UInt8) : valF m l ≤ valF n l := by
  induction l generalizing m n with
  | nil => exact h
  | cons c l ih => exact ih (by omega)
theorem digR_eq (m : Nat) (l : List UInt8) : digR (min m 1000000000000) l = (min (valF m (l.takeWhile isDig)) 1000000000000, l.dropWhile isDig) := by
  induction l generalizing m with
  | nil => rfl
  | cons c l ih =>
    unfold digR
    by_cases h : isDig c = true
    · rw [if_pos h, List.dropWhile_cons, if_pos h, List.takeWhile_cons, if_pos h]
      have e : min (10 * min m 1000000000000 + dval c) 1000000000000 = min (10 * m + dval c) 1000000000000 := by omega
      rw [e, ih]; rfl
    · rw [if_neg h, List.dropWhile_cons, if_neg h, List.takeWhile_cons, if_neg h]; rfl
theorem frR_zero (n : Nat) (l : List UInt8) : frR n 0 l = n := by
  induction l generalizing n with
  | nil => rfl
  | cons c l ih =>
    unfold frR
    split
    · rw [ih, Nat.mul_zero, Nat.add_zero]
    · rfl
theorem valF_zeros (k : Nat) : valF 0 (List.replicate k 48) = 0 := by
  induction k with
  | zero => rfl
  | succ k ih => rw [List.replicate_succ]; exact ih
theorem take_pad (l : List UInt8) (k : Nat) : (l ++ List.replicate (k + 1) 48).take k = (l ++ List.replicate k 48).take k := by
  rw [List.replicate_succ', ← List.append_assoc, List.take_append_of_le_length (by simp)]
theorem frR_eq (k n : Nat) (l : List UInt8) : frR n (10 ^ k) l = n + valF 0 ((l.takeWhile isDig ++ List.replicate (k + 1) 48).take (k + 1)) := by
  induction l generalizing k n with
  | nil =>
    show n = n + _
    rw [List.takeWhile_nil, List.nil_append, List.take_of_length_le (by simp), valF_zeros]; omega
  | cons c l ih =>
    unfold frR
    by_cases h : isDig c = true
    · rw [if_pos h, List.takeWhile_cons, if_pos h, List.cons_append, List.take_succ_cons]
      show _ = n + valF (10 * 0 + dval c) _
      rw [valF_shift (10 * 0 + dval c)]
      have hl : (List.take k (List.takeWhile isDig l ++ List.replicate (k + 1) 48)).length = k := by simp; omega
      rw [hl, Nat.mul_zero, Nat.zero_add]
      cases k with
      | zero =>
        rw [show (10 : Nat) ^ 0 / 10 = 0 by decide, frR_zero]
        rfl
      | succ k =>
        rw [show (10 : Nat) ^ (k + 1) / 10 = 10 ^ k by rw [Nat.pow_succ]; omega, ih, take_pad, Nat.add_assoc]
    · rw [if_neg h, List.takeWhile_cons, if_neg h, List.nil_append, List.take_of_length_le (by simp), valF_zeros]; omega
theorem scR_eq {n : Nat} (h : n ≤ maxNum) (l : List UInt8) (hl : ∀ c ∈ l, isDig c = true) : scR n l = min (valF n l) maxNum := by
  have e : maxNum = 999999999999999999 := rfl
  induction l generalizing n with
  | nil => show n = min n _; omega
  | cons c l ih =>
    unfold scR
    have hd := hl c (by simp)
    unfold isDig at hd
    simp at hd
    have hv : dval c ≤ 9 := by unfold dval; omega
    show _ = min (valF (10 * n + dval c) l) _
    split
    · rename_i hg
      have hm := valF_mono (m := 1000000000000000000) (n := 10 * n + dval c) (by omega) l
      have hs := valF_shift 1000000000000000000 l
      have hp : 1 ≤ 10 ^ l.length := Nat.pow_pos (by omega)
      have : 1000000000000000000 ≤ 1000000000000000000 * 10 ^ l.length := Nat.le_mul_of_pos_right _ hp
      omega
    · exact ih (by omega) (fun x hx => hl x (List.mem_cons_of_mem _ hx))
theorem takeWhile_mem (p : UInt8 → Bool) (l : List UInt8) : ∀ c ∈ l.takeWhile p, p c = true := by
  induction l with
  | nil => intro c hc; cases hc
  | cons x l ih =>
    intro c hc
    rw [List.takeWhile_cons] at hc
    split at hc
    · rename_i hx
      rcases List.mem_cons.1 hc with rfl | hc
      · exact hx
      · exact ih c hc
    · cases hc
theorem fracOf_digs (l : List UInt8) : ∀ c ∈ fracOf l, isDig c = true := by
  cases l with
  | nil => intro c hc; cases hc
  | cons x l =>
    intro c hc
    have hc2 : c ∈ (if x = 46 then l.takeWhile isDig else []) := hc
    by_cases h : x = 46
    · rw [if_pos h] at hc2; exact takeWhile_mem _ _ c hc2
    · rw [if_neg h] at hc2; cases hc2
theorem numDigits_digs (l : List UInt8) : ∀ c ∈ numDigits l, isDig c = true := by
  intro c hc
  unfold numDigits at hc
  rcases List.mem_append.1 hc with hc | hc
  · exact takeWhile_mem _ _ c hc
  · rcases List.mem_append.1 (List.mem_of_mem_take hc) with hc | hc
    · exact fracOf_digs _ c hc
    · exact (by decide : ∀ c ∈ six, isDig c = true) c hc
theorem fracR_eq (n : Nat) (l : List UInt8) : fracR n l = n + valF 0 ((fracOf l ++ six).take 6) := by
  cases l with
  | nil => rfl
  | cons c l =>
    show (if c = 46 then frR n 100000 l else n) = n + valF 0 (((if c = 46 then l.takeWhile isDig else []) ++ six).take 6)
    by_cases h : c = 46
    · rw [if_pos h, if_pos h]; exact frR_eq 5 n l
    · rw [if_neg h, if_neg h]; rfl
/-- The reference's number: by its three loops. -/
def refNum (l : List UInt8) : Nat := min (fracR (min ((digR 0 (l.dropWhile isSign)).1 * 1000000) 1000000000000000000) (digR 0 (l.dropWhile isSign)).2) 999999999999999999
theorem refNum_eq (l : List UInt8) : refNum l = min (valF 0 (numDigits l)) maxNum := by
  have h1 := digR_eq 0 (l.dropWhile isSign)
  have e0 : min 0 1000000000000 = 0 := rfl
  rw [e0] at h1
  have e : maxNum = 999999999999999999 := rfl
  unfold refNum
  rw [h1, fracR_eq]
  unfold numDigits
  rw [valF_append, valF_shift (valF 0 _)]
  have h6 : ((fracOf ((l.dropWhile isSign).dropWhile isDig) ++ six).take 6).length = 6 := by simp [six]
  rw [h6]
  show min (min (min (valF 0 _) 1000000000000 * 1000000) 1000000000000000000 + valF 0 _) _ = _
  generalize valF 0 ((l.dropWhile isSign).takeWhile isDig) = W
  have hF : valF 0 ((fracOf ((l.dropWhile isSign).dropWhile isDig) ++ six).take 6) < 1000000 := by
    have : ∀ (l : List UInt8), (∀ c ∈ l, isDig c = true) → valF 0 l < 10 ^ l.length := by
      intro l
      induction l with
      | nil => intro _; exact Nat.one_pos
      | cons c l ih =>
        intro hh
        have h1 := ih (fun x hx => hh x (List.mem_cons_of_mem _ hx))
        have h2 := hh c (by simp)
        unfold isDig at h2
        simp at h2
        show valF (10 * 0 + dval c) l < _
        rw [valF_shift, List.length_cons, Nat.pow_succ]
        have h3 : dval c ≤ 9 := by unfold dval; omega
        have h4 : (10 * 0 + dval c) * 10 ^ l.length ≤ 9 * 10 ^ l.length := Nat.mul_le_mul_right _ (by omega)
        omega
    have := this _ (fun c hc => numDigits_digs l c (List.mem_append_right _ hc))
    rwa [h6] at this
  generalize valF 0 ((fracOf ((l.dropWhile isSign).dropWhile isDig) ++ six).take 6) = F at hF ⊢
  omega
theorem canonB_spec (l : List UInt8) : canonB l = (!l.isEmpty && (decide (l.length ≤ 21) && decide (textOf (numOf l) = l))) := by
  unfold canonB
  by_cases h : textOf (numOf l) = l
  · have h1 := textOf_len (numOf_range l)
    have h2 := numText_ne (numOf l)
    rw [h] at h1 h2
    rw [decide_eq_true h, decide_eq_true (by omega)]
    cases l with
    | nil => exact absurd rfl h2
    | cons c l => rfl
  · rw [decide_eq_false h, Bool.and_false, Bool.and_false]

/- The order is total. -/
theorem byteLt_irrefl (a : List UInt8) : byteLt a a = false := by
  induction a with
  | nil => rfl
  | cons c a ih => unfold byteLt; rw [if_pos rfl]; exact ih
theorem byteLt_trans {a b c : List UInt8} (h : byteLt a b = true) (k : byteLt b c = true) : byteLt a c = true := by
  induction a generalizing b c with
  | nil =>
    cases c with
    | nil => cases b <;> cases k
    | cons z c => rfl
  | cons x a ih =>
    cases b with
    | nil => cases h
    | cons y b =>
      cases c with
      | nil => cases k
      | cons z c =>
        unfold byteLt at h k ⊢
        by_cases h1 : x = y
        · subst h1
          rw [if_pos rfl] at h
          by_cases h2 : x = z
          · rw [if_pos h2] at k ⊢; exact ih h k
          · rw [if_neg h2] at k ⊢; exact k
        · rw [if_neg h1] at h
          have h' := of_decide_eq_true h
          by_cases h2 : y = z
          · subst h2; rw [if_neg h1]; exact h
          · rw [if_neg h2] at k
            have k' := of_decide_eq_true k
            have h3 : x ≠ z := fun e => by subst e; omega
            rw [if_neg h3]; exact decide_eq_true (by omega)
theorem byteLt_total {a b : List UInt8} (h : a ≠ b) : (byteLt a b || byteLt b a) = true := by
  induction a generalizing b with
  | nil => cases b with
    | nil => exact absurd rfl h
    | cons => rfl
  | cons x a ih =>
    cases b with
    | nil => rfl
    | cons y b =>
      unfold byteLt
      by_cases h1 : x = y
      · subst h1
        rw [if_pos rfl, if_pos rfl]
        exact ih (fun e => h (by rw [e]))
      · rw [if_neg h1, if_neg (Ne.symm h1)]
        have : x.toNat ≠ y.toNat := fun e => h1 (UInt8.toNat_inj.1 e)
        rcases Nat.lt_or_gt_of_ne this with g | g
        · rw [decide_eq_true g]; rfl
        · rw [decide_eq_true g]; exact Bool.or_true _
theorem canon_inj {a b : List UInt8} (ha : canonB a = true) (hb : canonB b = true) (h : numOf a = numOf b) : a = b := by
  have h1 := of_decide_eq_true ha
  have h2 := of_decide_eq_true hb
  rw [← h1, ← h2, h]
theorem before_irrefl (a : List UInt8) : beforeB a a = false := by
  unfold beforeB
  split
  · exact decide_eq_false (by omega)
  · exact byteLt_irrefl a
theorem before_trans {a b c : List UInt8} (h : beforeB a b = true) (k : beforeB b c = true) : beforeB a c = true := by
  unfold beforeB at *
  by_cases ha : canonB a = true <;> by_cases hb : canonB b = true <;> by_cases hc : canonB c = true <;> simp only [ha, hb, hc, if_true, if_false, Bool.false_eq_true] at h k ⊢
  · have := of_decide_eq_true h; have := of_decide_eq_true k; exact decide_eq_true (by omega)
  · exact byteLt_trans h k
theorem before_total {a b : List UInt8} (h : a ≠ b) : (beforeB a b || beforeB b a) = true := by
  unfold beforeB
  by_cases ha : canonB a = true <;> by_cases hb : canonB b = true <;> simp only [ha, hb, if_true, if_false, Bool.false_eq_true, Bool.or_true, Bool.true_or]
  · have : numOf a ≠ numOf b := fun e => h (canon_inj ha hb e)
    rcases Int.lt_or_gt_of_ne this with g | g
    · rw [decide_eq_true g]; rfl
    · rw [decide_eq_true g]; exact Bool.or_true _
  · exact byteLt_total h
theorem before_asymm {a b : List UInt8} (h : beforeB a b = true) : beforeB b a = false := by
  cases hb : beforeB b a with
  | false => rfl
  | true => have := before_trans h hb; rw [before_irrefl] at this; cases this
end Go.Proofs.YtbknfkdjhajimaaGreatDoor
