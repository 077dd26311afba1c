/- The walk of the law FnAddNum: it returns true and writes nothing that was there. -/
import Derived.Test.YtajchbafolgcoaaDrawn
namespace Go.Proofs.Ytajchbafolgcoaa
open Go.RowKit

set_option maxHeartbeats 1000000 in
theorem FnAddNum_walk (a : Option Addr) (len cap : Nat) (w : World) (hb : BytesAt w w.heap.size a len) :
    Calls Try.prog 3 #[.slice a len cap] w fun e w' => e = .returned (.bool true) ∧ Below w.heap.size w w' := by
  by_cases hlen : 1048576 < len
  · go_enter Try.func3, Try.ntmps3
    go_wp2_with fail
    go_ret
    exact ⟨rfl, Below.refl _ _⟩
  go_enter Try.func3, Try.ntmps3
  go_wp2_with fail
  refine (A8Num_any a len cap w (by omega) hb).mono ?_
  rintro e w1 ⟨x, hx, rfl, hb1⟩
  go_wp2_with fail
  refine (a8Mix_any 1 (by omega) (by omega) a len cap w1 (by omega) ((hb.below hb1).more hb1.size)).mono ?_
  rintro e w2 ⟨a2, cap2, rfl, hy2, hb2⟩
  have hb2' := hb1.trans (hb2.mono hb1.size)
  go_wp2_with fail
  refine (A8Num_any a2 (len + 1) cap2 w2 (by omega) hy2).mono ?_
  rintro e w3 ⟨y, hy, rfl, hb3⟩
  have hb3' := hb2'.trans (hb3.mono (Nat.le_trans hb1.size hb2.size))
  clear hb1 hb2 hb2' hb3 hy2
  have x1 := hx.1; have x2 := hx.2; have y1 := hy.1; have y2 := hy.2
  by_cases hin : IsNum (x + y)
  · have s1 := hin.1; have s2 := hin.2
    go_wp2_with fail
    refine (addNum_ok x y hx hy hin _).mono ?_
    rintro e w4 ⟨rfl, rfl⟩
    go_wp2_with fail
    refine (addNum_ok y x hy hx (by rw [Int.add_comm]; exact hin) _).mono ?_
    rintro e w4 ⟨rfl, rfl⟩
    rw [Int.add_comm y x]
    go_wp2_with fail
    refine (subNum_ok (x + y) y hin hy (by rw [Int.add_sub_cancel]; exact hx) _).mono ?_
    rintro e w4 ⟨rfl, rfl⟩
    rw [Int.add_sub_cancel]
    go_wp2_with fail
    go_ret
    exact ⟨rfl, hb3'⟩
  · have hno : x + y < -999999999999999999 ∨ 999999999999999999 < x + y := by unfold IsNum at hin; omega
    have H := Lib.hid hno
    clear hin
    rcases hno with hno | hno
    all_goals
      go_wp2_with fail
      refine (addNum_no x y hx hy H.out _).mono ?_
      rintro e w4 ⟨rfl, rfl⟩
      go_wp2_with fail
      refine (addNum_no y x hy hx (by rw [Int.add_comm]; exact H.out) _).mono ?_
      rintro e w4 ⟨rfl, rfl⟩
      go_wp2_with fail
      go_ret
      exact ⟨rfl, hb3'⟩
end Go.Proofs.Ytajchbafolgcoaa
