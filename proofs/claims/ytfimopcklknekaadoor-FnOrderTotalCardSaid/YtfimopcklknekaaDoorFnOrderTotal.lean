/- The walk of the law FnOrderTotal. -/
import Derived.Test.YtfimopcklknekaaDoorDrawsT
namespace Go.Proofs.YtfimopcklknekaaDoor
open Go.RowKit Go.Shelf
set_option linter.unusedVariables false

theorem before_canon {a b : List UInt8} (ha : canonB a = true) (hb : canonB b = false) : beforeB a b = true := by
  unfold beforeB; rw [ha, hb]; rfl

/-- What the order says of two texts. -/
theorem order_two (a b : ByteArray) : ∃ p q : Bool, beforeB a.data.toList b.data.toList = p ∧ beforeB b.data.toList a.data.toList = q ∧ ((a = b ∧ p = false ∧ q = false) ∨ ((a.toList == b.toList) = false ∧ ((p = true ∧ q = false) ∨ (p = false ∧ q = true)))) := by
  refine ⟨_, _, rfl, rfl, ?_⟩
  by_cases h : a = b
  · subst h; exact .inl ⟨rfl, before_irrefl _, before_irrefl _⟩
  · refine .inr ⟨by rw [toList_beq']; exact decide_eq_false h, ?_⟩
    have ht := before_total (a := a.data.toList) (b := b.data.toList) (fun e => h (ba_ext e))
    cases hp : beforeB a.data.toList b.data.toList with
    | true => exact .inl ⟨rfl, before_asymm hp⟩
    | false => rw [hp, Bool.false_or] at ht; exact .inr ⟨rfl, ht⟩

set_option maxHeartbeats 4000000 in
theorem FnOrderTotal_walk (a : Option Addr) (len cap : Nat) (w : World) (hb : BytesAt w w.heap.size a len) (ht : Tab w) :
    Calls Tryd.prog 8 #[.slice a len cap] w fun e w' => e = .returned (.bool true) ∧ Below w.heap.size w w' := by
  by_cases hlen : 1048576 < len
  · go_enter Tryd.func8, Tryd.ntmps8
    go_wp2_with fail
    go_ret
    exact ⟨rfl, Below.refl _ _⟩
  go_enter Tryd.func8, Tryd.ntmps8
  go_wp2_with fail
  refine (A8Text_any a len cap w (by omega) hb).mono ?_
  rintro e w1 ⟨x, hx, rfl, hb1⟩
  go_wp2_with fail
  refine (a8Mix_any 1 (by omega) (by omega) a len cap w1 (by omega) ((hb.below hb1).more hb1.size)).mono ?_
  rintro e w2 ⟨a2, cap2, rfl, hy2, hb2⟩
  have hbw2 := hb1.trans (hb2.mono hb1.size)
  go_wp2_with fail
  refine (A8Text_any a2 (len + 1) cap2 w2 (by omega) hy2).mono ?_
  rintro e w3 ⟨y, hy, rfl, hb3⟩
  have hbw3 := hbw2.trans (hb3.mono hbw2.size)
  go_wp2_with fail
  refine (a8Mix_any 2 (by omega) (by omega) a len cap w3 (by omega) ((hb.below hbw3).more hbw3.size)).mono ?_
  rintro e w4 ⟨a4, cap4, rfl, hy4, hb4⟩
  have hbw4 := hbw3.trans (hb4.mono hbw3.size)
  go_wp2_with fail
  refine (A8Text_any a4 (len + 1) cap4 w4 (by omega) hy4).mono ?_
  rintro e w5 ⟨z, hz, rfl, hb5⟩
  have hbw5 := hbw4.trans (hb5.mono hbw4.size)
  clear hb1 hb2 hb3 hb4 hb5 hbw2 hbw3 hbw4 hy2 hy4
  obtain ⟨p, q, hp, hq, hpq⟩ := order_two x y
  have HP := Lib.hid hp
  have HQ := Lib.hid hq
  have HT := Lib.hid (fun (h1 : beforeB x.data.toList y.data.toList = true) (h2 : beforeB y.data.toList z.data.toList = true) => before_trans h1 h2)
  have HCC := Lib.hid (fun (h1 : canonB x.data.toList = true) (h2 : canonB y.data.toList = false) => before_canon h1 h2)
  clear hp hq
  rcases hpq with ⟨rfl, rfl, rfl⟩ | ⟨hne, ⟨rfl, rfl⟩ | ⟨rfl, rfl⟩⟩
  · have hxx : (x.toList == x.toList) = true := beq_self_eq_true _
    go_wp2_with fail
    refine (Before_any x x w5 (by omega) (by omega) (ht.below hbw5)).mono ?_
    rintro e w6 ⟨rfl, hb6⟩
    have hbw6 := hbw5.trans (hb6.mono hbw5.size)
    rw [HP.out]
    go_wp2_with fail
    refine (Before_any x x w6 (by omega) (by omega) (ht.below hbw6)).mono ?_
    rintro e w7 ⟨rfl, hb7⟩
    have hbw7 := hbw6.trans (hb7.mono hbw6.size)
    rw [HP.out]
    go_wp2_with fail
    refine (Before_any x x w7 (by omega) (by omega) (ht.below hbw7)).mono ?_
    rintro e w8 ⟨rfl, hb8⟩
    have hbw8 := hbw7.trans (hb8.mono hbw7.size)
    rw [HP.out]
    go_wp2_with fail
    refine (Before_any x x w8 (by omega) (by omega) (ht.below hbw8)).mono ?_
    rintro e w9 ⟨rfl, hb9⟩
    have hbw9 := hbw8.trans (hb9.mono hbw8.size)
    rw [HP.out]
    cases hc1 : canonB x.data.toList with
    | false =>
      go_wp2_with fail
      refine (IsCanon_any x w9 (by omega) (ht.below hbw9)).mono ?_
      rintro e w10 ⟨rfl, hb10⟩
      have hbw10 := hbw9.trans (hb10.mono hbw9.size)
      rw [hc1]
      clear hc1
      go_wp2_with fail
      go_ret
      exact ⟨rfl, hbw10⟩
    | true =>
      have HC1 := Lib.hid hc1; clear hc1
      go_wp2_with fail
      refine (IsCanon_any x w9 (by omega) (ht.below hbw9)).mono ?_
      rintro e w10 ⟨rfl, hb10⟩
      have hbw10 := hbw9.trans (hb10.mono hbw9.size)
      rw [HC1.out]
      go_wp2_with fail
      refine (IsCanon_any x w10 (by omega) (ht.below hbw10)).mono ?_
      rintro e w11 ⟨rfl, hb11⟩
      have hbw11 := hbw10.trans (hb11.mono hbw10.size)
      rw [HC1.out]
      go_wp2_with fail
      go_ret
      exact ⟨rfl, hbw11⟩
  · cases hr : beforeB y.data.toList z.data.toList with
    | false =>
      have HR := Lib.hid hr; clear hr
      go_wp2_with fail
      refine (Before_any x y w5 (by omega) (by omega) (ht.below hbw5)).mono ?_
      rintro e w6 ⟨rfl, hb6⟩
      have hbw6 := hbw5.trans (hb6.mono hbw5.size)
      rw [HP.out]
      go_wp2_with fail
      refine (Before_any y x w6 (by omega) (by omega) (ht.below hbw6)).mono ?_
      rintro e w7 ⟨rfl, hb7⟩
      have hbw7 := hbw6.trans (hb7.mono hbw6.size)
      rw [HQ.out]
      go_wp2_with fail
      refine (Before_any x y w7 (by omega) (by omega) (ht.below hbw7)).mono ?_
      rintro e w8 ⟨rfl, hb8⟩
      have hbw8 := hbw7.trans (hb8.mono hbw7.size)
      rw [HP.out]
      go_wp2_with fail
      refine (Before_any x y w8 (by omega) (by omega) (ht.below hbw8)).mono ?_
      rintro e w9 ⟨rfl, hb9⟩
      have hbw9 := hbw8.trans (hb9.mono hbw8.size)
      rw [HP.out]
      go_wp2_with fail
      refine (Before_any y z w9 (by omega) (by omega) (ht.below hbw9)).mono ?_
      rintro e w10 ⟨rfl, hb10⟩
      have hbw10 := hbw9.trans (hb10.mono hbw9.size)
      rw [HR.out]
      cases hc1 : canonB x.data.toList with
      | false =>
        go_wp2_with fail
        refine (IsCanon_any x w10 (by omega) (ht.below hbw10)).mono ?_
        rintro e w11 ⟨rfl, hb11⟩
        have hbw11 := hbw10.trans (hb11.mono hbw10.size)
        rw [hc1]
        clear hc1
        go_wp2_with fail
        go_ret
        exact ⟨rfl, hbw11⟩
      | true =>
        cases hc2 : canonB y.data.toList with
        | true =>
          have HC1 := Lib.hid hc1; have HC2 := Lib.hid hc2; clear hc1 hc2
          go_wp2_with fail
          refine (IsCanon_any x w10 (by omega) (ht.below hbw10)).mono ?_
          rintro e w11 ⟨rfl, hb11⟩
          have hbw11 := hbw10.trans (hb11.mono hbw10.size)
          rw [HC1.out]
          go_wp2_with fail
          refine (IsCanon_any y w11 (by omega) (ht.below hbw11)).mono ?_
          rintro e w12 ⟨rfl, hb12⟩
          have hbw12 := hbw11.trans (hb12.mono hbw11.size)
          rw [HC2.out]
          go_wp2_with fail
          go_ret
          exact ⟨rfl, hbw12⟩
        | false =>
          have HC1 := Lib.hid hc1; have HC2 := Lib.hid hc2; clear hc1 hc2
          go_wp2_with fail
          refine (IsCanon_any x w10 (by omega) (ht.below hbw10)).mono ?_
          rintro e w11 ⟨rfl, hb11⟩
          have hbw11 := hbw10.trans (hb11.mono hbw10.size)
          rw [HC1.out]
          go_wp2_with fail
          refine (IsCanon_any y w11 (by omega) (ht.below hbw11)).mono ?_
          rintro e w12 ⟨rfl, hb12⟩
          have hbw12 := hbw11.trans (hb12.mono hbw11.size)
          rw [HC2.out]
          go_wp2_with fail
          refine (Before_any x y w12 (by omega) (by omega) (ht.below hbw12)).mono ?_
          rintro e w13 ⟨rfl, hb13⟩
          have hbw13 := hbw12.trans (hb13.mono hbw12.size)
          rw [HP.out]
          go_wp2_with fail
          go_ret
          exact ⟨rfl, hbw13⟩
    | true =>
      have HX := Lib.hid (HT.out HP.out hr)
      have HR := Lib.hid hr; clear hr
      go_wp2_with fail
      refine (Before_any x y w5 (by omega) (by omega) (ht.below hbw5)).mono ?_
      rintro e w6 ⟨rfl, hb6⟩
      have hbw6 := hbw5.trans (hb6.mono hbw5.size)
      rw [HP.out]
      go_wp2_with fail
      refine (Before_any y x w6 (by omega) (by omega) (ht.below hbw6)).mono ?_
      rintro e w7 ⟨rfl, hb7⟩
      have hbw7 := hbw6.trans (hb7.mono hbw6.size)
      rw [HQ.out]
      go_wp2_with fail
      refine (Before_any x y w7 (by omega) (by omega) (ht.below hbw7)).mono ?_
      rintro e w8 ⟨rfl, hb8⟩
      have hbw8 := hbw7.trans (hb8.mono hbw7.size)
      rw [HP.out]
      go_wp2_with fail
      refine (Before_any x y w8 (by omega) (by omega) (ht.below hbw8)).mono ?_
      rintro e w9 ⟨rfl, hb9⟩
      have hbw9 := hbw8.trans (hb9.mono hbw8.size)
      rw [HP.out]
      go_wp2_with fail
      refine (Before_any y z w9 (by omega) (by omega) (ht.below hbw9)).mono ?_
      rintro e w10 ⟨rfl, hb10⟩
      have hbw10 := hbw9.trans (hb10.mono hbw9.size)
      rw [HR.out]
      go_wp2_with fail
      refine (Before_any x z w10 (by omega) (by omega) (ht.below hbw10)).mono ?_
      rintro e w11 ⟨rfl, hb11⟩
      have hbw11 := hbw10.trans (hb11.mono hbw10.size)
      rw [HX.out]
      cases hc1 : canonB x.data.toList with
      | false =>
        go_wp2_with fail
        refine (IsCanon_any x w11 (by omega) (ht.below hbw11)).mono ?_
        rintro e w12 ⟨rfl, hb12⟩
        have hbw12 := hbw11.trans (hb12.mono hbw11.size)
        rw [hc1]
        clear hc1
        go_wp2_with fail
        go_ret
        exact ⟨rfl, hbw12⟩
      | true =>
        cases hc2 : canonB y.data.toList with
        | true =>
          have HC1 := Lib.hid hc1; have HC2 := Lib.hid hc2; clear hc1 hc2
          go_wp2_with fail
          refine (IsCanon_any x w11 (by omega) (ht.below hbw11)).mono ?_
          rintro e w12 ⟨rfl, hb12⟩
          have hbw12 := hbw11.trans (hb12.mono hbw11.size)
          rw [HC1.out]
          go_wp2_with fail
          refine (IsCanon_any y w12 (by omega) (ht.below hbw12)).mono ?_
          rintro e w13 ⟨rfl, hb13⟩
          have hbw13 := hbw12.trans (hb13.mono hbw12.size)
          rw [HC2.out]
          go_wp2_with fail
          go_ret
          exact ⟨rfl, hbw13⟩
        | false =>
          have HC1 := Lib.hid hc1; have HC2 := Lib.hid hc2; clear hc1 hc2
          go_wp2_with fail
          refine (IsCanon_any x w11 (by omega) (ht.below hbw11)).mono ?_
          rintro e w12 ⟨rfl, hb12⟩
          have hbw12 := hbw11.trans (hb12.mono hbw11.size)
          rw [HC1.out]
          go_wp2_with fail
          refine (IsCanon_any y w12 (by omega) (ht.below hbw12)).mono ?_
          rintro e w13 ⟨rfl, hb13⟩
          have hbw13 := hbw12.trans (hb13.mono hbw12.size)
          rw [HC2.out]
          go_wp2_with fail
          refine (Before_any x y w13 (by omega) (by omega) (ht.below hbw13)).mono ?_
          rintro e w14 ⟨rfl, hb14⟩
          have hbw14 := hbw13.trans (hb14.mono hbw13.size)
          rw [HP.out]
          go_wp2_with fail
          go_ret
          exact ⟨rfl, hbw14⟩
  · skip
    go_wp2_with fail
    refine (Before_any x y w5 (by omega) (by omega) (ht.below hbw5)).mono ?_
    rintro e w6 ⟨rfl, hb6⟩
    have hbw6 := hbw5.trans (hb6.mono hbw5.size)
    rw [HP.out]
    go_wp2_with fail
    refine (Before_any x y w6 (by omega) (by omega) (ht.below hbw6)).mono ?_
    rintro e w7 ⟨rfl, hb7⟩
    have hbw7 := hbw6.trans (hb7.mono hbw6.size)
    rw [HP.out]
    go_wp2_with fail
    refine (Before_any y x w7 (by omega) (by omega) (ht.below hbw7)).mono ?_
    rintro e w8 ⟨rfl, hb8⟩
    have hbw8 := hbw7.trans (hb8.mono hbw7.size)
    rw [HQ.out]
    go_wp2_with fail
    refine (Before_any x y w8 (by omega) (by omega) (ht.below hbw8)).mono ?_
    rintro e w9 ⟨rfl, hb9⟩
    have hbw9 := hbw8.trans (hb9.mono hbw8.size)
    rw [HP.out]
    cases hc1 : canonB x.data.toList with
    | false =>
      go_wp2_with fail
      refine (IsCanon_any x w9 (by omega) (ht.below hbw9)).mono ?_
      rintro e w10 ⟨rfl, hb10⟩
      have hbw10 := hbw9.trans (hb10.mono hbw9.size)
      rw [hc1]
      clear hc1
      go_wp2_with fail
      go_ret
      exact ⟨rfl, hbw10⟩
    | true =>
      cases hc2 : canonB y.data.toList with
      | true =>
        have HC1 := Lib.hid hc1; have HC2 := Lib.hid hc2; clear hc1 hc2
        go_wp2_with fail
        refine (IsCanon_any x w9 (by omega) (ht.below hbw9)).mono ?_
        rintro e w10 ⟨rfl, hb10⟩
        have hbw10 := hbw9.trans (hb10.mono hbw9.size)
        rw [HC1.out]
        go_wp2_with fail
        refine (IsCanon_any y w10 (by omega) (ht.below hbw10)).mono ?_
        rintro e w11 ⟨rfl, hb11⟩
        have hbw11 := hbw10.trans (hb11.mono hbw10.size)
        rw [HC2.out]
        go_wp2_with fail
        go_ret
        exact ⟨rfl, hbw11⟩
      | false =>
        have := HCC.out hc1 hc2
        rw [HP.out] at this
        cases this
end Go.Proofs.YtfimopcklknekaaDoor
