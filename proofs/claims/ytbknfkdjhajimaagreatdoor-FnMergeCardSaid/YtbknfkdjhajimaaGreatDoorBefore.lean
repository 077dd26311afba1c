/- The program's order: cmp.Compare at numbers and texts, collate, Before. -/
import Derived.Test.YtbknfkdjhajimaaGreatDoorNumTextI
namespace Go.Proofs.YtbknfkdjhajimaaGreatDoor
open Go.RowKit Go.Shelf
set_option linter.unusedVariables false

theorem byteLt_eq : ∀ x y : List UInt8, Op.bytesLess x y = byteLt x y
  | _, [] => by unfold byteLt Op.bytesLess; rfl
  | [], _ :: _ => rfl
  | a :: x, b :: y => by
    show (decide (a < b) || (a == b && Op.bytesLess x y)) = (if a = b then byteLt x y else decide (a.toNat < b.toNat))
    by_cases h : a = b
    · subst h
      rw [if_pos rfl, byteLt_eq x y]
      have : decide (a < a) = false := decide_eq_false (by rw [UInt8.lt_iff_toNat_lt]; omega)
      rw [this]; simp
    · rw [if_neg h, beq_eq_false_iff_ne.2 h, Bool.false_and, Bool.or_false]
      exact decide_eq_decide.2 UInt8.lt_iff_toNat_lt
theorem less_eq (a b : ByteArray) : Op.bytesLess a.toList b.toList = byteLt a.data.toList b.data.toList := by
  rw [byteLt_eq, ByteArray.toList_eq, ByteArray.toList_eq]

def cmpV (lt gt : Bool) : Int := if lt = true then -1 else if gt = true then 1 else 0
/-- The sign of the comparison. -/
def collV (a b : List UInt8) : Int :=
  if canonB a = true then (if canonB b = true then cmpV (decide (numOf a < numOf b)) (decide (numOf b < numOf a)) else -1) else (if canonB b = true then 1 else cmpV (byteLt a b) (byteLt b a))
theorem collV_neg (a b : List UInt8) : decide (collV a b < 0) = beforeB a b := by
  have hc : ∀ x y : Bool, decide (cmpV x y < 0) = x := by decide
  unfold collV beforeB
  by_cases h1 : canonB a = true <;> by_cases h2 : canonB b = true
  · rw [if_pos h1, if_pos h2, if_pos h1, if_pos h2]; exact hc _ _
  · rw [if_pos h1, if_neg h2, if_pos h1, if_neg h2]; rfl
  · rw [if_neg h1, if_pos h2, if_neg h1, if_pos h2]; rfl
  · rw [if_neg h1, if_neg h2, if_neg h1, if_neg h2]; exact hc _ _
theorem collV_range (a b : List UInt8) : -1 ≤ collV a b ∧ collV a b ≤ 1 := by
  have hc : ∀ x y : Bool, -1 ≤ cmpV x y ∧ cmpV x y ≤ 1 := by decide
  unfold collV
  split
  · split
    · exact hc _ _
    · omega
  · split
    · omega
    · exact hc _ _

theorem cmpInt_any (a b : Int) (w : World) : Calls Tryz.prog 139 #[.int .i64 a, .int .i64 b] w fun e w' => e = .returned (.int .i64 (cmpV (decide (a < b)) (decide (b < a)))) ∧ w = w' := by
  generalize hg : cmpV (decide (a < b)) (decide (b < a)) = c
  have HG := Lib.hid hg; clear hg
  by_cases h1 : a < b
  · have HV := Lib.hid (show c = -1 by rw [← HG.out, decide_eq_true h1]; rfl)
    go_enter Tryz.func139, Tryz.ntmps139
    go_wp2
    go_ret
    exact ⟨by rw [HV.out]; rfl, rfl⟩
  · by_cases h2 : b < a
    · have HV := Lib.hid (show c = 1 by rw [← HG.out, decide_eq_false h1, decide_eq_true h2]; rfl)
      go_enter Tryz.func139, Tryz.ntmps139
      go_wp2
      go_ret
      exact ⟨by rw [HV.out]; rfl, rfl⟩
    · have HV := Lib.hid (show c = 0 by rw [← HG.out, decide_eq_false h1, decide_eq_false h2]; rfl)
      go_enter Tryz.func139, Tryz.ntmps139
      go_wp2
      go_ret
      exact ⟨by rw [HV.out]; rfl, rfl⟩

theorem cmpStr_any (a b : ByteArray) (w : World) : Calls Tryz.prog 93 #[.string a, .string b] w fun e w' => e = .returned (.int .i64 (cmpV (byteLt a.data.toList b.data.toList) (byteLt b.data.toList a.data.toList))) ∧ w = w' := by
  have q0 : ∀ x : ByteArray, (x.toList == x.toList) = true := fun x => beq_self_eq_true _
  by_cases h1 : byteLt a.data.toList b.data.toList = true
  · have HV := Lib.hid (show cmpV (byteLt a.data.toList b.data.toList) (byteLt b.data.toList a.data.toList) = -1 by rw [h1]; rfl)
    have q1 : Op.bytesLess a.toList b.toList = true := by rw [less_eq]; exact h1
    clear h1
    go_enter Tryz.func93, Tryz.ntmps93
    go_wp2
    go_ret
    exact ⟨by rw [HV.out]; rfl, rfl⟩
  · have h1 : byteLt a.data.toList b.data.toList = false := by simpa using h1
    have q1 : Op.bytesLess a.toList b.toList = false := by rw [less_eq]; exact h1
    by_cases h2 : a = b
    · subst h2
      have HV := Lib.hid (show cmpV (byteLt a.data.toList a.data.toList) (byteLt a.data.toList a.data.toList) = 0 by rw [h1]; rfl)
      clear h1
      go_enter Tryz.func93, Tryz.ntmps93
      go_wp2
      go_ret
      exact ⟨by rw [HV.out]; rfl, rfl⟩
    · have HV := Lib.hid (show cmpV (byteLt a.data.toList b.data.toList) (byteLt b.data.toList a.data.toList) = 1 by
        have h3 := byteLt_total (a := a.data.toList) (b := b.data.toList) (fun e => h2 (ba_ext e))
        rw [h1, Bool.false_or] at h3
        rw [h1, h3]; rfl)
      have q2 : (a.toList == b.toList) = false := by rw [toList_beq']; exact decide_eq_false h2
      clear h1 h2
      go_enter Tryz.func93, Tryz.ntmps93
      go_wp2
      go_ret
      exact ⟨by rw [HV.out]; rfl, rfl⟩

def IntPostB (n : Int) (w : World) (e : Ending) (w' : World) : Prop := e = .returned (.int .i64 n) ∧ Below w.heap.size w w'
set_option maxHeartbeats 1000000 in
theorem collate_any (a b : ByteArray) (w : World) (ha : a.size ≤ 9223372036854775000) (hb : b.size ≤ 9223372036854775000) (ht : Tab w) : Calls Tryz.prog 121 #[.string a, .string b] w (IntPostB (collV a.data.toList b.data.toList) w) := by
  go_enter Tryz.func121, Tryz.ntmps121
  go_wp2_with fail
  refine (IsCanon_any a w ha ht).mono ?_
  rintro e w1 ⟨rfl, hb1⟩
  have ht1 := Tab.below ht hb1
  go_wp2_with fail
  refine (IsCanon_any b w1 hb ht1).mono ?_
  rintro e w2 ⟨rfl, hb2⟩
  have ht2 := Tab.below ht1 hb2
  have hw2 : Below w.heap.size w w2 := hb1.trans (hb2.mono (by have := hb1.size; omega))
  cases hA : canonB a.data.toList <;> cases hB : canonB b.data.toList
  · have HV := Lib.hid (show collV a.data.toList b.data.toList = cmpV (byteLt a.data.toList b.data.toList) (byteLt b.data.toList a.data.toList) by unfold collV; rw [hA, hB]; rfl)
    clear hA hB
    go_wp2_with fail
    refine (cmpStr_any a b w2).mono ?_
    rintro e w3 ⟨rfl, rfl⟩
    go_wp2_with fail
    go_ret
    exact ⟨by rw [HV.out]; rfl, hw2⟩
  · have HV := Lib.hid (show collV a.data.toList b.data.toList = 1 by unfold collV; rw [hA, hB]; rfl)
    clear hA hB
    go_wp2_with fail
    go_ret
    exact ⟨by rw [HV.out]; rfl, hw2⟩
  · have HV := Lib.hid (show collV a.data.toList b.data.toList = -1 by unfold collV; rw [hA, hB]; rfl)
    clear hA hB
    go_wp2_with fail
    go_ret
    exact ⟨by rw [HV.out]; rfl, hw2⟩
  · have HV := Lib.hid (show collV a.data.toList b.data.toList = cmpV (decide (numOf a.data.toList < numOf b.data.toList)) (decide (numOf b.data.toList < numOf a.data.toList)) by unfold collV; rw [hA, hB]; rfl)
    clear hA hB
    go_wp2_with fail
    refine (NumOf_any a w2 ha).mono ?_
    rintro e w3 ⟨x, hx, rfl, hb3⟩
    have HX := Lib.hid hx; clear hx
    go_wp2_with fail
    refine (NumOf_any b w3 hb).mono ?_
    rintro e w4 ⟨y, hy, rfl, hb4⟩
    have HY := Lib.hid hy; clear hy
    go_wp2_with fail
    refine (cmpInt_any x y w4).mono ?_
    rintro e w5 ⟨rfl, rfl⟩
    go_wp2_with fail
    go_ret
    refine ⟨by rw [HV.out, ← HX.out, ← HY.out]; rfl, ?_⟩
    have hw3 := hw2.trans (hb3.mono (by have := hw2.size; omega))
    exact hw3.trans (hb4.mono (by have := hw3.size; omega))
end Go.Proofs.YtbknfkdjhajimaaGreatDoor
