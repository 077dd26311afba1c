/- Closures handed to slices.ContainsFunc: written by wip/gen/containsf.py. -/
import Derived.Test.YtajchbafolgcoaaCell
namespace Go.Proofs.Ytajchbafolgcoaa
open Go.RowKit
set_option linter.unusedVariables false

/-- An index comes back, or -1: not negative where one is found. -/
def IdxPost (found : Bool) (w : World) (e : Ending) (w' : World) : Prop := ∃ r : Int, decide (0 ≤ r) = found ∧ e = .returned (.int .i64 r) ∧ Below w.heap.size w w'

/-- A cell that is not right. -/
def badCell (s : ByteArray) : Bool := !cellB s

theorem answerText1_any (s : ByteArray) (w : World) (hs : s.size ≤ 9223372036854775807) :
    Calls Try.prog 81 #[.string s] w fun e w' => e = .returned (.bool (badCell s)) ∧ Below w.heap.size w w' := by
  obtain ⟨r, hr⟩ : ∃ r, cellB s = r := ⟨_, rfl⟩
  have HR := Lib.hid (show badCell s = !r by simp [badCell, hr])
  have HC := Lib.hid hr
  clear hr
  go_enter Try.func81, Try.ntmps81
  go_wp2_with fail
  refine (cellOk_any s w hs).mono ?_
  rw [HC.out]
  rintro e w1 ⟨rfl, hb⟩
  go_wp2_with fail
  go_ret
  exact ⟨by rw [HR.out]; rfl, hb⟩

set_option maxHeartbeats 1000000 in
theorem idxf_answerText1 (xs : List ByteArray) (a : Option Addr) (c : Nat) (w : World) (hn : xs.length ≤ 9223372036854775807) (hs : ∀ x ∈ xs, x.size ≤ 9223372036854775807) (hr : RowAt w w.heap.size a (strCells xs)) :
    Calls Try.prog 125 #[.slice a xs.length c, .func (.func 81) #[] #[]] w (IdxPost (xs.any badCell) w) := by
  have HR := Lib.hid hr
  have HS := Lib.hid hs
  clear hr hs
  go_enter Try.func125, Try.ntmps125
  go_wp2_with fail
  go_loopw [8] (fun i wr => ∃ k : Nat, k ≤ xs.length ∧ i = .int .i64 k ∧ Hid ((xs.take k).any badCell = false) ∧ Below w.heap.size w wr) (fun i _ => xs.length - (intOf i).toNat)
  case atStart => exact ⟨0, by omega, rfl, Lib.hid (by simp), Below.refl _ _⟩
  case round =>
    obtain ⟨k, hk, rfl, hno, hbw⟩ := hrel
    by_cases hlt : k < xs.length
    · obtain ⟨b, off, rfl, hb, hc⟩ := (HR.out.below hbw).str (by omega)
      have hck := hc k hlt
      have hsz := HS.out _ (List.getElem_mem hlt)
      have hstep := Lib.hid (any_take_succ xs badCell k hlt)
      have hfound := Lib.hid (any_of_at xs badCell k hlt)
      clear hc
      obtain ⟨y, hy⟩ : ∃ y, y = xs[k] := ⟨_, rfl⟩
      rw [← hy] at hck hsz hstep hfound
      clear hy
      obtain ⟨r, hr⟩ : ∃ r, badCell y = r := ⟨_, rfl⟩
      have HRR := Lib.hid hr
      clear hr
      go_wp2_with fail
      refine (answerText1_any y wr hsz).mono ?_
      rw [HRR.out]
      rintro e w1 ⟨rfl, hb1⟩
      have hbw1 := hbw.trans (hb1.mono hbw.size)
      cases r
      · go_wp2_with fail
        go_roundw
        case rel => exact ⟨k + 1, by omega, by go_num, Lib.hid (by rw [hstep.out, hno.out, HRR.out]; rfl), hbw1⟩
        case measure => simp [intOf]; omega
      · go_wp2_with fail
        go_ret
        exact ⟨(k : Int), by rw [hfound.out HRR.out]; simp, rfl, hbw1⟩
    · have hall := Lib.hid (show xs.any badCell = false by
        have := hno.out
        rwa [List.take_of_length_le (by omega)] at this)
      go_wp2_with fail
      go_ret
      exact ⟨-1, by rw [hall.out]; simp, rfl, hbw⟩

theorem contf_answerText1 (xs : List ByteArray) (a : Option Addr) (c : Nat) (w : World) (hn : xs.length ≤ 9223372036854775807) (hs : ∀ x ∈ xs, x.size ≤ 9223372036854775807) (hr : RowAt w w.heap.size a (strCells xs)) :
    Calls Try.prog 80 #[.slice a xs.length c, .func (.func 81) #[] #[]] w fun e w' => e = .returned (.bool (xs.any badCell)) ∧ Below w.heap.size w w' := by
  have HR := Lib.hid hr
  have HS := Lib.hid hs
  clear hr hs
  go_enter Try.func80, Try.ntmps80
  go_wp2_with fail
  refine (idxf_answerText1 xs a c w hn HS.out HR.out).mono ?_
  rintro e w1 ⟨r, hr, rfl, hb1⟩
  have HRR := Lib.hid hr
  clear hr
  go_wp2_with fail
  go_ret
  exact ⟨by rw [← HRR.out]; rfl, hb1⟩
end Go.Proofs.Ytajchbafolgcoaa
