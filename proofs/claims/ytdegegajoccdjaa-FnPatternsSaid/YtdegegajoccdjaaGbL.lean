/- Patterns as values of the reckoner: shapes, what is right. -/
import Derived.Test.YtdegegajoccdjaaGaL
import Derived.Test.YtdegegajoccdjaaPatS
namespace Go.Proofs.Ytdegegajoccdjaa
open Go.RowKit
set_option linter.unusedVariables false
set_option linter.unusedSimpArgs false

mutual
theorem shPt_mono : ∀ {d e : Nat} (l : List PatT), d ≤ e → shPt d l → shPt e l
  | _, _, [], _, _ => by simp only [shPt]
  | d, e, .mk lo hi c t al :: r, h, k => by
    unfold shPt at k ⊢
    obtain ⟨a1, a2, a3, a4, a5, a6, a7, a8⟩ := k
    exact ⟨a1, a2, a3, a4, a5, a6.imp id (fun x => by omega), shAl_mono al (by omega) a7, shPt_mono r h a8⟩
theorem shAl_mono : ∀ {d e : Nat} (l : List (List PatT)), d ≤ e → shAl d l → shAl e l
  | _, _, [], _, _ => by simp only [shAl]
  | d, e, x :: r, h, k => by
    unfold shAl at k ⊢
    obtain ⟨a1, a2, a3⟩ := k
    exact ⟨a1, shPt_mono x h a2, shAl_mono r h a3⟩
end
abbrev cellsP (x : PatT) : List PV := [.int .i64 x.low, .int .i64 x.high, .str x.codes, .str x.text, .sl x.alts.length (encAl x.alts)]
abbrev pP1 (x : PatT) : PV := .agg [.int .i64 x.low, .int .i64 x.high, .str x.codes, .str x.text, .sl x.alts.length (encAl x.alts)]
abbrev pPt (l : List PatT) : PV := .sl l.length (encPt l)
abbrev pAl (l : List (List PatT)) : PV := .sl l.length (encAl l)
theorem encPt_cons (x : PatT) (r : List PatT) : encPt (x :: r) = .int .i64 x.low :: .int .i64 x.high :: .str x.codes :: .str x.text :: .sl x.alts.length (encAl x.alts) :: encPt r := by cases x; simp only [encPt]; rfl
theorem encPt_nil : encPt [] = [] := by simp only [encPt]
theorem encAl_nil : encAl [] = [] := by simp only [encAl]
theorem encAl_cons (x : List PatT) (r : List (List PatT)) : encAl (x :: r) = .sl x.length (encPt x) :: encAl r := by simp only [encAl]
def shP1 (x : PatT) : Prop := shPt 9 [x]
def shPts (l : List PatT) : Prop := l.length ≤ 1000 ∧ shPt 9 l
def shAls (l : List (List PatT)) : Prop := l.length ≤ 1000 ∧ shAl 9 l
theorem shPt_cons {d : Nat} (x : PatT) (r : List PatT) : shPt d (x :: r) ↔ shPt d [x] ∧ shPt d r := by
  cases x
  have e : shPt d [] := by simp only [shPt]
  simp only [shPt]
  exact ⟨fun ⟨a1, a2, a3, a4, a5, a6, a7, a8⟩ => ⟨⟨a1, a2, a3, a4, a5, a6, a7, trivial⟩, a8⟩, fun ⟨⟨a1, a2, a3, a4, a5, a6, a7, _⟩, a8⟩ => ⟨a1, a2, a3, a4, a5, a6, a7, a8⟩⟩
theorem shP1_facts {x : PatT} (h : shP1 x) : (-9223372036854775808 ≤ x.low ∧ x.low ≤ 9223372036854775807) ∧ (-9223372036854775808 ≤ x.high ∧ x.high ≤ 9223372036854775807) ∧ x.codes.size ≤ 1000000 ∧ x.text.size ≤ 1000000 ∧ shAls x.alts := by
  cases x
  unfold shP1 shPt at h
  obtain ⟨a1, a2, a3, a4, a5, a6, a7, a8⟩ := h
  exact ⟨a1, a2, a3, a4, a5, shAl_mono _ (by omega) a7⟩
theorem shPt_at : ∀ {d : Nat} {l : List PatT}, shPt d l → ∀ {i : Nat} (hi : i < l.length), shPt d [l[i]]
  | _, [], _, i, hi => by cases hi
  | d, x :: r, h, 0, hi => ((shPt_cons x r).1 h).1
  | d, x :: r, h, i + 1, hi => shPt_at ((shPt_cons x r).1 h).2 (by simpa using hi)
theorem shPts_at {l : List PatT} (h : shPts l) {i : Nat} (hi : i < l.length) : shP1 l[i] := shPt_at h.2 hi
theorem shAl_at : ∀ {d : Nat} {l : List (List PatT)}, shAl d l → ∀ {i : Nat} (hi : i < l.length), l[i].length ≤ 1000 ∧ shPt d l[i]
  | _, [], _, i, hi => by cases hi
  | d, x :: r, h, 0, hi => by unfold shAl at h; exact ⟨h.1, h.2.1⟩
  | d, x :: r, h, i + 1, hi => by unfold shAl at h; exact shAl_at h.2.2 (by simpa using hi)
theorem shAls_at {l : List (List PatT)} (h : shAls l) {i : Nat} (hi : i < l.length) : shPts l[i] := shAl_at h.2 hi
theorem pP1_inj (x y : PatT) (h : pP1 x = pP1 y) : x = y := by
  injection h with h
  have := encPt_inj (t := [x]) (u := [y]) (by rw [encPt_cons, encPt_cons]; simpa using h)
  injection this
theorem pPt_inj (x y : List PatT) (h : pPt x = pPt y) : x = y := by injection h with _ h; exact encPt_inj h
theorem pAl_inj (x y : List (List PatT)) (h : pAl x = pAl y) : x = y := by injection h with _ h; exact encAl_inj h
noncomputable abbrev isP1 (p : PV) : Bool := isE pP1 shP1 p
noncomputable abbrev asP1 (p : PV) : PatT := asE pP1 p
noncomputable abbrev isPt (p : PV) : Bool := isE pPt shPts p
noncomputable abbrev asPt (p : PV) : List PatT := asE pPt p
noncomputable abbrev isAl (p : PV) : Bool := isE pAl shAls p
noncomputable abbrev asAl (p : PV) : List (List PatT) := asE pAl p
theorem isP1_mk {x : PatT} (h : shP1 x) : isE pP1 shP1 (PV.agg [.int .i64 x.low, .int .i64 x.high, .str x.codes, .str x.text, .sl x.alts.length (encAl x.alts)]) = true := isE_mk (enc := pP1) h
theorem asP1_mk (x : PatT) : asE pP1 (PV.agg [.int .i64 x.low, .int .i64 x.high, .str x.codes, .str x.text, .sl x.alts.length (encAl x.alts)]) = x := asE_mk pP1_inj x
theorem isPt_mk {x : List PatT} (h : shPts x) : isE pPt shPts (PV.sl x.length (encPt x)) = true := isE_mk (enc := pPt) h
theorem asPt_mk (x : List PatT) : asE pPt (PV.sl x.length (encPt x)) = x := asE_mk pPt_inj x
theorem isAl_mk {x : List (List PatT)} (h : shAls x) : isE pAl shAls (PV.sl x.length (encAl x)) = true := isE_mk (enc := pAl) h
theorem asAl_mk (x : List (List PatT)) : asE pAl (PV.sl x.length (encAl x)) = x := asE_mk pAl_inj x
theorem drop_encPt : ∀ (t : List PatT) (i : Nat) (h : i < t.length), (encPt t).drop (i * 5) = .int .i64 t[i].low :: .int .i64 t[i].high :: .str t[i].codes :: .str t[i].text :: .sl t[i].alts.length (encAl t[i].alts) :: encPt (t.drop (i + 1))
  | [], i, h => by cases h
  | x :: t, 0, h => by rw [encPt_cons, Nat.zero_mul, List.drop_zero]; rfl
  | x :: t, i + 1, h => by
    have := drop_encPt t i (by simpa using h)
    rw [show (i + 1) * 5 = i * 5 + 5 by omega, encPt_cons]
    simp only [List.drop_succ_cons, List.getElem_cons_succ]
    exact this
theorem drop_encAl : ∀ (t : List (List PatT)) (i : Nat) (h : i < t.length), (encAl t).drop (i * 1) = .sl t[i].length (encPt t[i]) :: encAl (t.drop (i + 1))
  | [], i, h => by cases h
  | x :: t, 0, h => by rw [encAl_cons, Nat.zero_mul, List.drop_zero]; rfl
  | x :: t, i + 1, h => by
    have := drop_encAl t i (by simpa using h)
    rw [show (i + 1) * 1 = i * 1 + 1 by omega, encAl_cons]
    simp only [List.drop_succ_cons, List.getElem_cons_succ]
    exact this
theorem encPt_app : ∀ t u : List PatT, encPt (t ++ u) = encPt t ++ encPt u
  | [], u => by rw [encPt_nil]; rfl
  | x :: t, u => by
    rw [List.cons_append, encPt_cons, encPt_cons, encPt_app t u]
    rfl
theorem encAl_app : ∀ t u : List (List PatT), encAl (t ++ u) = encAl t ++ encAl u
  | [], u => by rw [encAl_nil]; rfl
  | x :: t, u => by
    rw [List.cons_append, encAl_cons, encAl_cons, encAl_app t u]
    rfl
theorem encPt_len : ∀ t : List PatT, (encPt t).length = t.length * 5
  | [] => by rw [encPt_nil]; rfl
  | x :: t => by rw [encPt_cons]; simp only [List.length_cons, encPt_len t]; omega
theorem encAl_len : ∀ t : List (List PatT), (encAl t).length = t.length
  | [] => by rw [encAl_nil]; rfl
  | x :: t => by rw [encAl_cons, List.length_cons, encAl_len t, List.length_cons]
/-! What is right. -/
def codesPc : List UInt8 := [65, 67, 69, 76, 78, 80, 85]
def codesC : Option UInt8 → List UInt8 → Bool
  | _, [] => true
  | p, x :: l => decide (0 ≤ Lib.indexByte codesPc x) && (match p with | none => true | some y => decide (y.toNat < x.toNat)) && codesC (some x) l
def codesB (c : ByteArray) : Bool := codesC none c.data.toList
def rngI (n a b : Int) : Bool := decide (a ≤ n) && decide (n ≤ b)
mutual
def itemB : Nat → PatT → Bool
  | f, .mk lo hi c t al => rngI lo 0 99 && (decide (hi = -1) || rngI hi lo 99) &&
      (if c.size ≠ 0 then codesB c && decide (t.size = 0) && decide (al.length = 0)
       else if t.size ≠ 0 then decide (t.size ≤ 24) && decide (al.length = 0)
       else rngI al.length 1 8 && decide (0 < f) && altsB (f - 1) al)
def itemsL : Nat → List PatT → Bool
  | _, [] => true
  | f, x :: r => itemB f x && itemsL f r
def altsB : Nat → List (List PatT) → Bool
  | _, [] => true
  | f, x :: r => (rngI x.length 1 8 && itemsL f x) && altsB f r
end
def itemsB (f : Nat) (l : List PatT) : Bool := rngI l.length 1 8 && itemsL f l
theorem itemsL_any (f : Nat) : ∀ l : List PatT, itemsL f l = !l.any fun p => !itemB f p
  | [] => by simp only [itemsL]; rfl
  | x :: r => by
    rw [show itemsL f (x :: r) = (itemB f x && itemsL f r) by simp only [itemsL]]
    rw [itemsL_any f r, List.any_cons, Bool.not_or, Bool.not_not]
theorem altsB_any (f : Nat) : ∀ l : List (List PatT), altsB f l = !l.any fun p => !itemsB f p
  | [] => by simp only [altsB]; rfl
  | x :: r => by
    rw [show altsB f (x :: r) = (itemsB f x && altsB f r) by simp only [altsB]; rfl]
    rw [altsB_any f r, List.any_cons, Bool.not_or, Bool.not_not]
end Go.Proofs.Ytdegegajoccdjaa
