/- A query's text, plain; what a right query's parts are. -/
import Derived.Test.YtfimopcklknekaaGreatDoorQOk
import Derived.Test.YtfimopcklknekaaGreatDoorStrB
import Derived.Lib.Join
import Derived.Lib.ItoaNum
namespace Go.Proofs.YtfimopcklknekaaGreatDoor
open Go.RowKit
set_option linter.unusedVariables false

def colT (cols : List ByteArray) (i : Nat) : List UInt8 := (if i = 0 then [] else [44]) ++ (cols.getD i ⟨#[]⟩).data.toList
def colsN (cols : List ByteArray) (k : Nat) : List UInt8 := (List.range k).flatMap (colT cols)
def opT (op : Int) : List UInt8 := (([61, 60, 62, 35] : List UInt8).take op.toNat).drop (op.toNat - 1)
def wordT (i : Nat) : List UInt8 := if i = 0 then [32, 119, 104, 101, 114, 101, 32] else [32, 97, 110, 100, 32]
def condT (conds : List CondV) (i : Nat) : List UInt8 := wordT i ++ ((conds.getD i (⟨#[]⟩, 0, ⟨#[]⟩)).1.data.toList ++ (opT (conds.getD i (⟨#[]⟩, 0, ⟨#[]⟩)).2.1 ++ (conds.getD i (⟨#[]⟩, 0, ⟨#[]⟩)).2.2.data.toList))
def condsN (conds : List CondV) (k : Nat) : List UInt8 := (List.range k).flatMap (condT conds)
def headT (q : QueryV) : List UInt8 := [115, 101, 108, 101, 99, 116, 32] ++ ((if q.cols.length = 0 then [42] else colsN q.cols q.cols.length) ++ ([32, 102, 114, 111, 109, 32] ++ q.table.data.toList))
def orderT (q : QueryV) : List UInt8 := if q.order.size = 0 then [] else [32, 111, 114, 100, 101, 114, 32, 98, 121, 32] ++ q.order.data.toList
def descT (q : QueryV) : List UInt8 := if q.desc = true then [32, 100, 101, 115, 99] else []
def limitT (q : QueryV) : List UInt8 := if q.limit = 0 then [] else [32, 108, 105, 109, 105, 116, 32] ++ Lib.decDigits q.limit.toNat
def qText (q : QueryV) : List UInt8 := headT q ++ (condsN q.conds q.conds.length ++ (orderT q ++ (descT q ++ limitT q)))
def queryTextB (q : QueryV) : List UInt8 := if queryB q = true then qText q else []

theorem colsN_succ (cols : List ByteArray) (k : Nat) : colsN cols (k + 1) = colsN cols k ++ colT cols k := by
  unfold colsN; rw [List.range_succ, List.flatMap_append]; simp
theorem condsN_succ (conds : List CondV) (k : Nat) : condsN conds (k + 1) = condsN conds k ++ condT conds k := by
  unfold condsN; rw [List.range_succ, List.flatMap_append]; simp

/-- The parts of a right query. -/
structure QFacts (q : QueryV) : Prop where
  table : q.table.size ≤ 8
  ncols : q.cols.length ≤ 5
  cols : ∀ x ∈ q.cols, x.size ≤ 8
  nconds : q.conds.length ≤ 3
  conds : ∀ c ∈ q.conds, c.1.size ≤ 8 ∧ (1 ≤ c.2.1 ∧ c.2.1 ≤ 4) ∧ c.2.2.size ≤ 11
  limit : 0 ≤ q.limit ∧ q.limit ≤ 24
  order : q.order.size ≤ 8
  desc : q.order.size = 0 → q.desc = false

theorem nameB_size {s : ByteArray} (h : nameB s = true) : 1 ≤ s.size ∧ s.size ≤ 8 := by
  unfold nameB at h
  simp only [Bool.and_eq_true, decide_eq_true_eq] at h
  exact h.1
theorem qfacts {q : QueryV} (h : queryB q = true) : QFacts q := by
  unfold queryB at h
  simp only [Bool.and_eq_true, decide_eq_true_eq, Bool.not_eq_true'] at h
  obtain ⟨h1, h2, _, h4, h5, h6, h7, h8⟩ := h
  refine ⟨(nameB_size h1).2, h2, ?_, h4, ?_, ?_, ?_, ?_⟩
  · intro x hx
    have := List.any_eq_false.1 h6 x hx
    unfold badName at this
    simp only [Bool.not_eq_true', Bool.not_eq_false] at this
    exact (nameB_size this).2
  · intro c hc
    have := List.any_eq_false.1 h7 c hc
    unfold badCond condB at this
    simp only [Bool.not_eq_true', Bool.not_eq_false, Bool.and_eq_true] at this
    obtain ⟨n1, n2, n3⟩ := this
    unfold inB at n2
    unfold valueB cellB at n3
    simp only [Bool.and_eq_true, decide_eq_true_eq] at n2 n3
    exact ⟨(nameB_size n1).2, n2, n3.1.1⟩
  · unfold inB at h5
    simp only [Bool.and_eq_true, decide_eq_true_eq] at h5
    exact h5
  · unfold orderB at h8
    simp only [Bool.or_eq_true, Bool.and_eq_true, decide_eq_true_eq] at h8
    rcases h8 with h | h
    · exact (nameB_size h).2
    · omega
  · intro h0
    unfold orderB at h8
    simp only [Bool.or_eq_true, Bool.and_eq_true, decide_eq_true_eq, Bool.not_eq_true'] at h8
    rcases h8 with h | h
    · have := (nameB_size h).1; omega
    · exact h.2

theorem colT_len {cols : List ByteArray} (h : ∀ x ∈ cols, x.size ≤ 8) (i : Nat) : (colT cols i).length ≤ 9 := by
  unfold colT
  rw [List.length_append]
  have : (cols.getD i ⟨#[]⟩).data.toList.length ≤ 8 := by
    rw [← size_len, List.getD_eq_getElem?_getD]
    cases hg : cols[i]? with
    | none => simp [ByteArray.size]
    | some x => exact h x (List.mem_of_getElem? hg)
  by_cases h0 : i = 0
  · rw [if_pos h0]; show 0 + _ ≤ 9; omega
  · rw [if_neg h0]; show 1 + _ ≤ 9; omega
theorem colsN_len {cols : List ByteArray} (h : ∀ x ∈ cols, x.size ≤ 8) (k : Nat) : (colsN cols k).length ≤ 9 * k := by
  induction k with
  | zero => simp [colsN]
  | succ k ih => rw [colsN_succ, List.length_append]; have := colT_len h k; omega
theorem getD_col (cols : List ByteArray) (k : Nat) (h : k < cols.length) : cols.getD k ⟨#[]⟩ = cols[k] := by
  rw [List.getD_eq_getElem?_getD, List.getElem?_eq_getElem h]; rfl
theorem getD_cond (conds : List CondV) (k : Nat) (h : k < conds.length) : conds.getD k (⟨#[]⟩, 0, ⟨#[]⟩) = conds[k] := by
  rw [List.getD_eq_getElem?_getD, List.getElem?_eq_getElem h]; rfl
/-- strings.Join with commas is the loop's text. -/
theorem join_cols (cols : List ByteArray) (h : 0 < cols.length) : Lib.join (cols.map fun x => x.data.toList) [44] = colsN cols cols.length := by
  have key : ∀ (l : List ByteArray) (x : ByteArray), Lib.join ((x :: l).map fun x => x.data.toList) [44] = x.data.toList ++ (l.flatMap fun y => 44 :: y.data.toList) := by
    intro l
    induction l with
    | nil => intro x; simp [Lib.join, List.intercalate]
    | cons y l ih =>
      intro x
      have := ih y
      unfold Lib.join at this ⊢
      rw [List.map_cons, List.map_cons, List.intercalate_cons_cons]
      rw [List.map_cons] at this
      rw [this]
      simp
  cases cols with
  | nil => simp at h
  | cons x l =>
    rw [key]
    unfold colsN
    rw [List.length_cons, List.range_succ_eq_map, List.flatMap_cons]
    congr 1
    rw [List.flatMap_map]
    have : ∀ (n : Nat), n ≤ l.length → (List.range n).flatMap (fun i => colT (x :: l) (i + 1)) = (l.take n).flatMap fun y => 44 :: y.data.toList := by
      intro n
      induction n with
      | zero => intro _; simp
      | succ n ih =>
        intro hn
        rw [List.range_succ, List.flatMap_append, ih (by omega), List.take_succ_eq_append_getElem (by omega), List.flatMap_append]
        congr 1
        simp only [List.flatMap_cons, List.flatMap_nil, List.append_nil]
        unfold colT
        rw [if_neg (by omega), List.getD_cons_succ, getD_col l n (by omega)]
        rfl
    have h2 := this l.length (Nat.le_refl _)
    rw [List.take_length] at h2
    exact h2.symm
end Go.Proofs.YtfimopcklknekaaGreatDoor
