/- The walk of the law FnNumText. -/
import Derived.Test.YtfimopcklknekaaDoorDrawsT
namespace Go.Proofs.YtfimopcklknekaaDoor
open Go.RowKit Go.Shelf
set_option linter.unusedVariables false

theorem truth_t (s : ByteArray) (n : Int) (w : World) (hs : s.size ≤ 9223372036854775000) (hn : numOf s.data.toList = n) (h0 : n ≠ 0) : Calls Tryd.prog 28 #[.string s] w (BoolPost true w) := by
  have HN := Lib.hid hn; clear hn
  have q : (n != 0) = true := by simpa using h0
  clear h0
  go_enter Tryd.func28, Tryd.ntmps28
  go_wp2_with fail
  refine (NumOf_any s w hs).mono ?_
  rintro e w1 ⟨k, hk, rfl, hb1⟩
  rw [HN.out] at hk
  obtain rfl : n = k := hk.symm
  clear HN hk
  go_wp2_with fail
  go_ret
  exact ⟨rfl, hb1⟩
theorem truth_f (s : ByteArray) (w : World) (hs : s.size ≤ 9223372036854775000) (hn : numOf s.data.toList = 0) : Calls Tryd.prog 28 #[.string s] w (BoolPost false w) := by
  have HN := Lib.hid hn; clear hn
  go_enter Tryd.func28, Tryd.ntmps28
  go_wp2_with fail
  refine (NumOf_any s w hs).mono ?_
  rintro e w1 ⟨k, hk, rfl, hb1⟩
  rw [HN.out] at hk
  subst hk
  go_wp2_with fail
  go_ret
  exact ⟨rfl, hb1⟩
theorem canon_text {n : Int} (h : IsNum n) : canonB (textOf n) = true := by
  unfold canonB
  rw [numOf_textOf h]; exact decide_eq_true rfl

set_option maxHeartbeats 2000000 in
theorem FnNumText_walk (a : Option Addr) (len cap : Nat) (w : World) (hb : BytesAt w w.heap.size a len) (ht : Tab w) :
    Calls Tryd.prog 6 #[.slice a len cap] w fun e w' => e = .returned (.bool true) ∧ Below w.heap.size w w' := by
  by_cases hlen : 1048576 < len
  · go_enter Tryd.func6, Tryd.ntmps6
    go_wp2_with fail
    go_ret
    exact ⟨rfl, Below.refl _ _⟩
  go_enter Tryd.func6, Tryd.ntmps6
  go_wp2_with fail
  refine (A8Num_any a len cap w (by omega) hb).mono ?_
  rintro e w1 ⟨n, hn, rfl, hb1⟩
  have ht1 := ht.below hb1
  go_wp2_with fail
  refine (NumText_any n w1 hn ht1).mono ?_
  rintro e w2 ⟨t, htt, rfl, hb2⟩
  have HT := Lib.hid htt; clear htt
  have hbw2 := hb1.trans (hb2.mono hb1.size)
  have tl : t.size ≤ 20 := StrPost.len HT.out (textOf_len hn)
  have HTN := Lib.hid (show numOf t.data.toList = n by rw [HT.out]; exact numOf_textOf hn)
  have HTC := Lib.hid (show canonB t.data.toList = true by rw [HT.out]; exact canon_text hn)
  go_wp2_with fail
  refine (A8Word_any a len cap w2 (by omega) ((hb.below hbw2).more hbw2.size)).mono ?_
  rintro e w3 ⟨s, hs, rfl, hb3⟩
  have hbw3 := hbw2.trans (hb3.mono hbw2.size)
  go_wp2_with fail
  refine (NumOf_any s w3 (by omega)).mono ?_
  rintro e w4 ⟨x, hx, rfl, hb4⟩
  have hbw4 := hbw3.trans (hb4.mono hbw3.size)
  have HX := Lib.hid hx; clear hx
  have hxn : IsNum x := by rw [HX.out]; exact numOf_range _
  obtain ⟨x1, x2⟩ := hxn
  have dx1 : decide (-999999999999999999 ≤ x) = true := decide_eq_true x1
  have dx2 : decide (x ≤ 999999999999999999) = true := decide_eq_true x2
  go_wp2_with fail
  refine (NumOf_any t w4 (by omega)).mono ?_
  rintro e w5 ⟨k, hk, rfl, hb5⟩
  have hbw5 := hbw4.trans (hb5.mono hbw4.size)
  rw [HTN.out] at hk
  obtain rfl : n = k := hk.symm
  clear hk hb1 hb2 hb3 hb4 hb5 hbw2 hbw3 hbw4 ht1
  go_wp2_with fail
  refine (IsCanon_any t w5 (by omega) (ht.below hbw5)).mono ?_
  rintro e w6 ⟨rfl, hb6⟩
  have hbw6 := hbw5.trans (hb6.mono hbw5.size)
  rw [HTC.out]
  go_wp2_with fail
  refine (IsCanon_any s w6 (by omega) (ht.below hbw6)).mono ?_
  rintro e w7 ⟨rfl, hb7⟩
  have hbw7 := hbw6.trans (hb7.mono hbw6.size)
  go_wp2_with fail
  refine (NumText_any x w7 ⟨x1, x2⟩ (ht.below hbw7)).mono ?_
  rintro e w8 ⟨u, hu, rfl, hb8⟩
  have hbw8 := hbw7.trans (hb8.mono hbw7.size)
  have HC := Lib.hid (show canonB s.data.toList = (u.toList == s.toList) by
    unfold canonB
    rw [← HX.out, ← hu, toList_beq']
    exact decide_eq_decide.2 ⟨fun e => ba_ext e, fun e => by rw [e]⟩)
  clear hu hb6 hb7 hb8 hbw5 hbw6 hbw7
  obtain ⟨c, hc⟩ : ∃ c, (u.toList == s.toList) = c := ⟨_, rfl⟩
  rw [HC.out, hc]
  clear HC
  by_cases hn0 : n = 0
  · subst hn0
    cases c
    all_goals
      go_wp2_with fail
      refine (truth_f t w8 (by omega) HTN.out).mono ?_
      rintro e w9 ⟨rfl, hb9⟩
      have hbw9 := hbw8.trans (hb9.mono hbw8.size)
      go_wp2_with fail
      go_ret
      exact ⟨rfl, hbw9⟩
  · have q : (n != 0) = true := by simpa using hn0
    have HN0 := Lib.hid hn0; clear hn0
    cases c
    all_goals
      go_wp2_with fail
      refine (truth_t t n w8 (by omega) HTN.out HN0.out).mono ?_
      rintro e w9 ⟨rfl, hb9⟩
      have hbw9 := hbw8.trans (hb9.mono hbw8.size)
      go_wp2_with fail
      go_ret
      exact ⟨rfl, hbw9⟩
end Go.Proofs.YtfimopcklknekaaDoor
