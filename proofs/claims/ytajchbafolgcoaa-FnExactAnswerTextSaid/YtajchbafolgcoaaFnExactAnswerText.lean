/- The walk of the law FnExactAnswerText. -/
import Derived.Test.YtajchbafolgcoaaAnsImpl
namespace Go.Proofs.Ytajchbafolgcoaa
open Go.RowKit
set_option linter.unusedVariables false

theorem mem_le_sum {xs : List Nat} {x : Nat} (h : x ∈ xs) : x ≤ xs.sum := by
  induction xs with
  | nil => cases h
  | cons y ys ih =>
    rw [List.sum_cons]
    rcases List.mem_cons.1 h with rfl | h
    · omega
    · have := ih h
      omega
/-- What the need of rows bounds. -/
theorem rowsNeed_bounds (xs : List (List ByteArray)) (n : Nat) (h : rowsNeed xs ≤ n) : xs.length ≤ n ∧ ∀ r ∈ xs, List.length r ≤ n ∧ ∀ x ∈ r, x.size ≤ n := by
  unfold rowsNeed at h
  refine ⟨by omega, fun r hr => ?_⟩
  have h1 := mem_le_sum (List.mem_map_of_mem (f := strsNeed) hr)
  unfold strsNeed at h1
  refine ⟨by unfold strsNeed at h; omega, fun x hx => ?_⟩
  have h2 := mem_le_sum (List.mem_map_of_mem (f := ByteArray.size) hx)
  unfold strsNeed at h
  omega
theorem ans_pair (xs : List (List ByteArray)) : ∃ (o : ByteArray) (k : Int), (if ansOk xs then Value.tuple #[.string ⟨(ansText xs).toArray⟩, .int .i64 0] else .tuple #[.string ⟨#[]⟩, .int .i64 1]) = .tuple #[.string o, .int .i64 k] := by
  by_cases h : ansOk xs = true
  · rw [if_pos h]; exact ⟨_, _, rfl⟩
  · rw [if_neg h]; exact ⟨_, _, rfl⟩

set_option maxHeartbeats 4000000 in
theorem FnExactAnswerText_walk (xs : List (List ByteArray)) (a : Option Addr) (c : Nat) (w : World) (hwf : RowsWf xs) (hr : RowsAt w w.heap.size a xs) :
    Calls Try.prog 9 #[.slice a xs.length c] w fun e w' => e = .returned (.bool true) ∧ Below w.heap.size w w' := by
  have HR := Lib.hid (fun W (hb : Below w.heap.size w W) => ((hr.below hb).more hb.size : RowsAt W W.heap.size a xs))
  clear hr
  have hxl := hwf.1
  have HN := Lib.hid (rowsNeed_bounds xs 1048576)
  go_enter Try.func9, Try.ntmps9
  go_wp2_with fail
  refine (szRowS_any xs a c 1048576 w (by omega) (by omega) hwf (HR.out _ (Below.refl _ _))).mono ?_
  rintro e w1 ⟨r, hr, rfl, hb1⟩
  by_cases hneg : r < 0
  · clear hr
    go_wp2_with fail
    go_ret
    exact ⟨rfl, hb1⟩
  have hr1 : r ≤ 1048576 := by omega
  have HB := Lib.hid (HN.out (by omega))
  have hx2 : xs.length ≤ 1048576 := HB.out.1
  clear hr
  obtain ⟨o, k, hok⟩ := ans_pair xs
  have HOK := Lib.hid hok
  clear hok
  have q1 : (o.toList == o.toList) = true := beq_self_eq_true _
  have q2 : (k == k) = true := beq_self_eq_true _
  go_wp2_with fail
  refine (toRowS_any xs a c w1 hx2 (fun y hy => (HB.out.2 y hy).1) (HR.out _ hb1)).mono ?_
  rintro e w2 ⟨a2, c2, rfl, hr2, hb2⟩
  have hbw2 := hb1.trans (hb2.mono hb1.size)
  clear hb1 hb2
  go_wp2_with fail
  refine (answerText_spec xs a2 c2 w2 hx2 HB.out.2 hr2).mono ?_
  rintro e w3 ⟨he, hb3⟩
  rw [HOK.out] at he
  subst he
  have hbw3 := hbw2.trans (hb3.mono hbw2.size)
  clear hbw2 hb3 hr2
  go_wp2_with fail
  refine (toRowS_any xs a c w3 hx2 (fun y hy => (HB.out.2 y hy).1) (HR.out _ hbw3)).mono ?_
  rintro e w4 ⟨a4, c4, rfl, hr4, hb4⟩
  have hbw4 := hbw3.trans (hb4.mono hbw3.size)
  clear hbw3 hb4
  have HR4 := Lib.hid hr4
  clear hr4
  go_wp2_with fail
  refine (answerText_impl xs a4 c4 w4 hx2 HB.out.2 HR4.out).mono ?_
  rintro e w5 ⟨he, hb5⟩
  rw [HOK.out] at he
  subst he
  have hbw5 := hbw4.trans (hb5.mono hbw4.size)
  have HR5 := Lib.hid ((HR4.out.below hb5).more hb5.size)
  clear HR4 hbw4 hb5
  go_wp2_with fail
  refine (toRowS_any xs a c w5 hx2 (fun y hy => (HB.out.2 y hy).1) (HR.out _ hbw5)).mono ?_
  rintro e w6 ⟨a6, c6, rfl, hr6, hb6⟩
  have hbw6 := hbw5.trans (hb6.mono hbw5.size)
  have HR6 := Lib.hid ((HR5.out.below hb6).more hb6.size)
  clear HR5 hbw5 hb6
  go_wp2_with fail
  refine (eqRowS_same xs a4 a6 c4 c6 w6 (by omega) (fun y hy => by have := (HB.out.2 y hy).1; omega) HR6.out hr6).mono ?_
  rintro e w7 ⟨rfl, hb7⟩
  have hbw7 := hbw6.trans (hb7.mono hbw6.size)
  clear hb7 hbw6 hr6
  go_wp2_with fail
  go_ret
  exact ⟨rfl, hbw7⟩
end Go.Proofs.Ytajchbafolgcoaa
