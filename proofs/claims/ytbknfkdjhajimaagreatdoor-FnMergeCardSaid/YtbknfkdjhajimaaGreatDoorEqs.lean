/- Slices of strings, compared: written by wip/gen/eqloops.py. -/
import Derived.Test.YtbknfkdjhajimaaGreatDoorStrs
namespace Go.Proofs.YtbknfkdjhajimaaGreatDoor
open Go.RowKit
set_option linter.unusedVariables false

set_option maxHeartbeats 1000000 in
theorem equalStrs_any (xs ys : List ByteArray) (a a2 : Option Addr) (c c2 B : Nat) (r : Bool) (hr : decide (xs = ys) = r) (w : World) (hn : xs.length ≤ 9223372036854775807) (hn2 : ys.length ≤ 9223372036854775807)
    (h1 : RowAt w B a (strCells xs)) (h2 : RowAt w B a2 (strCells ys)) :
    Calls Tryz.prog 101 #[.slice a xs.length c, .slice a2 ys.length c2] w fun e w' => e = .returned (.bool r) ∧ ∃ m, w' = w.drewN m := by
  have HRes := Lib.hid hr
  clear hr
  by_cases hlen : xs.length = ys.length
  · have HL := Lib.hid hlen
    have k1 : ((xs.length : Int) != (ys.length : Int)) = false := by rw [hlen]; simp
    have k2 : (xs.length : Int) ≤ (ys.length : Int) := by omega
    have H1 := Lib.hid h1
    have H2 := Lib.hid h2
    clear h1 h2 hlen
    go_enter Tryz.func101, Tryz.ntmps101
    go_wp2_with fail
    go_loopw [13] (fun i wr => ∃ (k m : Nat), k ≤ xs.length ∧ i = .int .i64 k ∧ Hid (xs.take k = ys.take k) ∧ wr = w.drewN m) (fun i _ => xs.length - (intOf i).toNat)
    case atStart => exact ⟨0, 0, by omega, rfl, Lib.hid rfl, rfl⟩
    case round =>
      obtain ⟨k, m, hk, rfl, htk, rfl⟩ := hrel
      by_cases hlt : k < xs.length
      · have hlt2 : k < ys.length := by have := HL.out; omega
        obtain ⟨b, off, rfl, hb, hc⟩ := H1.out.str (by omega)
        obtain ⟨b2, off2, rfl, hb2, hc2⟩ := H2.out.str (by omega)
        have hck := hc k hlt
        have hck2 := hc2 k hlt2
        have hstep := Lib.hid (take_eq_succ xs ys k hlt hlt2 htk.out)
        have hno := Lib.hid (ne_of_at xs ys k hlt hlt2)
        have b1 : (0 : Int) ≤ (k : Int) := by omega
        have b2' : (k : Int) < (xs.length : Int) := by omega
        have b3 : (k : Int) < (ys.length : Int) := by omega
        clear hc hc2
        obtain ⟨y, hy⟩ : ∃ y, y = xs[k] := ⟨_, rfl⟩
        obtain ⟨y2, hy2⟩ : ∃ y, y = ys[k] := ⟨_, rfl⟩
        rw [← hy] at hck hstep hno
        rw [← hy2] at hck2 hstep hno
        clear hy hy2
        by_cases hq : y = y2
        · have hq' : (y.toList == y2.toList) = true := by rw [toList_beq]; simpa using hq
          have HQ := Lib.hid hq
          clear hq
          go_wp2_with fail
          go_quiet (fail)
          go_wp2_with fail
          go_roundw
          case rel => exact ⟨k + 1, _, by omega, by go_num, Lib.hid (hstep.out HQ.out), rfl⟩
          case measure => simp [intOf]; omega
        · have hq' : (y.toList == y2.toList) = false := by rw [toList_beq]; simpa using hq
          have HQ := Lib.hid hq
          clear hq
          go_wp2_with fail
          go_quiet (fail)
          go_wp2_with fail
          go_ret
          refine ⟨?_, _, World.drewN_drewN _ _ _⟩
          rw [← HRes.out, decide_eq_false (hno.out HQ.out)]
          rfl
      · have hall := Lib.hid (show xs = ys from by
          have := htk.out
          rwa [List.take_of_length_le (by omega), List.take_of_length_le (by have := HL.out; omega)] at this)
        go_wp2_with fail
        go_ret
        refine ⟨?_, _, rfl⟩
        rw [← HRes.out, decide_eq_true hall.out]
        rfl
  · have k1 : ((xs.length : Int) != (ys.length : Int)) = true := bne_iff_ne.2 (by omega)
    have HNE := Lib.hid (show xs ≠ ys from fun h => hlen (by rw [h]))
    clear hlen
    go_enter Tryz.func101, Tryz.ntmps101
    go_wp2_with fail
    go_ret
    refine ⟨?_, 0, rfl⟩
    rw [← HRes.out, decide_eq_false HNE.out]
    rfl

end Go.Proofs.YtbknfkdjhajimaaGreatDoor
