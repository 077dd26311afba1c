/- CondTrue: both versions. -/
import Derived.Test.YtfimopcklknekaaDoorNumTextR
import Derived.Test.YtfimopcklknekaaDoorCond
namespace Go.Proofs.YtfimopcklknekaaDoor
open Go.RowKit Go.Shelf
set_option linter.unusedVariables false

def condTrueB (x : ByteArray) (op : Int) (v : ByteArray) : Bool :=
  if op = 1 then decide (x = v) else if op = 2 then beforeB x.data.toList v.data.toList else if op = 3 then beforeB v.data.toList x.data.toList else if op = 4 then !decide (x = v) else false

set_option maxHeartbeats 1000000 in
theorem condTrue_impl (x : ByteArray) (c : CondV) (w : World) (hx : x.size ≤ 1048576) (hv : c.2.2.size ≤ 1048576) (ht : Tab w) : Calls Tryd.prog 32 #[.string x, condAgg c] w (BoolPost (condTrueB x c.2.1 c.2.2) w) := by
  obtain ⟨col, op, v⟩ := c
  unfold condAgg
  dsimp only at hv ⊢
  have hba : ∀ o : Obj, Below w.heap.size w (w.alloc o) := fun o => (Below.refl _ _).alloc (Nat.le_refl _) o
  have hta : ∀ o : Obj, Tab (w.alloc o) := fun o => ht.below (hba o)
  have HTA := Lib.hid hta
  clear hta
  have HBA := Lib.hid hba
  clear hba
  generalize hg : condTrueB x op v = res
  have HG := Lib.hid hg; clear hg
  by_cases h1 : op = 1
  · subst h1
    have HR := Lib.hid (show res = decide (x = v) by rw [← HG.out]; rfl)
    by_cases he : x = v
    · subst he
      have HV := Lib.hid (show res = true by rw [HR.out]; exact decide_eq_true rfl)
      go_enter Tryd.func32, Tryd.ntmps32
      go_wp2_with fail
      go_ret
      exact ⟨by rw [HV.out]; simp, HBA.out _⟩
    · have hq : (x.toList == v.toList) = false := by rw [toList_beq']; exact decide_eq_false he
      have HV := Lib.hid (show res = false by rw [HR.out]; exact decide_eq_false he)
      go_enter Tryd.func32, Tryd.ntmps32
      go_wp2_with fail
      go_ret
      exact ⟨by rw [HV.out]; rfl, HBA.out _⟩
  by_cases h2 : op = 2
  · subst h2
    have HR := Lib.hid (show res = beforeB x.data.toList v.data.toList by rw [← HG.out]; rfl)
    go_enter Tryd.func32, Tryd.ntmps32
    go_wp2_with fail
    refine (Before_any x v _ (by omega) (by omega) (HTA.out _)).mono ?_
    rintro e w1 ⟨rfl, hb1⟩
    go_wp2_with fail
    go_ret
    exact ⟨by rw [HR.out]; rfl, (HBA.out _).trans (hb1.mono (HBA.out _).size)⟩
  by_cases h3 : op = 3
  · subst h3
    have HR := Lib.hid (show res = beforeB v.data.toList x.data.toList by rw [← HG.out]; rfl)
    go_enter Tryd.func32, Tryd.ntmps32
    go_wp2_with fail
    refine (Before_any v x _ (by omega) (by omega) (HTA.out _)).mono ?_
    rintro e w1 ⟨rfl, hb1⟩
    go_wp2_with fail
    go_ret
    exact ⟨by rw [HR.out]; rfl, (HBA.out _).trans (hb1.mono (HBA.out _).size)⟩
  by_cases h4 : op = 4
  · subst h4
    have HR := Lib.hid (show res = !decide (x = v) by rw [← HG.out]; rfl)
    by_cases he : x = v
    · subst he
      have HV := Lib.hid (show res = false by rw [HR.out, decide_eq_true rfl]; rfl)
      go_enter Tryd.func32, Tryd.ntmps32
      go_wp2_with fail
      go_ret
      exact ⟨by rw [HV.out]; simp, HBA.out _⟩
    · have hq : (x.toList == v.toList) = false := by rw [toList_beq']; exact decide_eq_false he
      have HV := Lib.hid (show res = true by rw [HR.out, decide_eq_false he]; rfl)
      go_enter Tryd.func32, Tryd.ntmps32
      go_wp2_with fail
      go_ret
      exact ⟨by rw [HV.out]; rfl, HBA.out _⟩
  have HR := Lib.hid (show res = false by rw [← HG.out]; unfold condTrueB; rw [if_neg h1, if_neg h2, if_neg h3, if_neg h4])
  have q1 : (op == 1) = false := beq_eq_false_iff_ne.2 h1
  have q2 : (op == 2) = false := beq_eq_false_iff_ne.2 h2
  have q3 : (op == 3) = false := beq_eq_false_iff_ne.2 h3
  have q4 : (op == 4) = false := beq_eq_false_iff_ne.2 h4
  clear h1 h2 h3 h4
  go_enter Tryd.func32, Tryd.ntmps32
  go_wp2_with fail
  go_ret
  exact ⟨by rw [HR.out]; rfl, HBA.out _⟩

set_option maxHeartbeats 1000000 in
theorem condTrue_spec (x : ByteArray) (c : CondV) (w : World) (hx : x.size ≤ 1048576) (hv : c.2.2.size ≤ 1048576) : Calls Tryd.prog 30 #[.string x, condAgg c] w (BoolPost (condTrueB x c.2.1 c.2.2) w) := by
  obtain ⟨col, op, v⟩ := c
  unfold condAgg
  dsimp only at hv ⊢
  have hba : ∀ o : Obj, Below w.heap.size w (w.alloc o) := fun o => (Below.refl _ _).alloc (Nat.le_refl _) o
  have HBA := Lib.hid hba
  clear hba
  generalize hg : condTrueB x op v = res
  have HG := Lib.hid hg; clear hg
  by_cases h1 : op = 1
  · subst h1
    have HR := Lib.hid (show res = decide (x = v) by rw [← HG.out]; rfl)
    by_cases he : x = v
    · subst he
      have HV := Lib.hid (show res = true by rw [HR.out]; exact decide_eq_true rfl)
      go_enter Tryd.func30, Tryd.ntmps30
      go_wp2_with fail
      go_ret
      exact ⟨by rw [HV.out]; simp, HBA.out _⟩
    · have hq : (x.toList == v.toList) = false := by rw [toList_beq']; exact decide_eq_false he
      have HV := Lib.hid (show res = false by rw [HR.out]; exact decide_eq_false he)
      go_enter Tryd.func30, Tryd.ntmps30
      go_wp2_with fail
      go_ret
      exact ⟨by rw [HV.out]; rfl, HBA.out _⟩
  by_cases h2 : op = 2
  · subst h2
    have HR := Lib.hid (show res = beforeB x.data.toList v.data.toList by rw [← HG.out]; rfl)
    go_enter Tryd.func30, Tryd.ntmps30
    go_wp2_with fail
    refine (specBefore_any x v _ (by omega) (by omega)).mono ?_
    rintro e w1 ⟨rfl, hb1⟩
    go_wp2_with fail
    go_ret
    exact ⟨by rw [HR.out]; rfl, (HBA.out _).trans (hb1.mono (HBA.out _).size)⟩
  by_cases h3 : op = 3
  · subst h3
    have HR := Lib.hid (show res = beforeB v.data.toList x.data.toList by rw [← HG.out]; rfl)
    go_enter Tryd.func30, Tryd.ntmps30
    go_wp2_with fail
    refine (specBefore_any v x _ (by omega) (by omega)).mono ?_
    rintro e w1 ⟨rfl, hb1⟩
    go_wp2_with fail
    go_ret
    exact ⟨by rw [HR.out]; rfl, (HBA.out _).trans (hb1.mono (HBA.out _).size)⟩
  by_cases h4 : op = 4
  · subst h4
    have HR := Lib.hid (show res = !decide (x = v) by rw [← HG.out]; rfl)
    by_cases he : x = v
    · subst he
      have HV := Lib.hid (show res = false by rw [HR.out, decide_eq_true rfl]; rfl)
      go_enter Tryd.func30, Tryd.ntmps30
      go_wp2_with fail
      go_ret
      exact ⟨by rw [HV.out]; simp, HBA.out _⟩
    · have hq : (x.toList == v.toList) = false := by rw [toList_beq']; exact decide_eq_false he
      have HV := Lib.hid (show res = true by rw [HR.out, decide_eq_false he]; rfl)
      go_enter Tryd.func30, Tryd.ntmps30
      go_wp2_with fail
      go_ret
      exact ⟨by rw [HV.out]; rfl, HBA.out _⟩
  have HR := Lib.hid (show res = false by rw [← HG.out]; unfold condTrueB; rw [if_neg h1, if_neg h2, if_neg h3, if_neg h4])
  have q1 : (op == 1) = false := beq_eq_false_iff_ne.2 h1
  have q2 : (op == 2) = false := beq_eq_false_iff_ne.2 h2
  have q3 : (op == 3) = false := beq_eq_false_iff_ne.2 h3
  have q4 : (op == 4) = false := beq_eq_false_iff_ne.2 h4
  clear h1 h2 h3 h4
  go_enter Tryd.func30, Tryd.ntmps30
  go_wp2_with fail
  go_ret
  exact ⟨by rw [HR.out]; rfl, HBA.out _⟩

end Go.Proofs.YtfimopcklknekaaDoor
