/- slices.IndexFunc and slices.ContainsFunc with whatever closure: written by wip/gen/idxf.py. -/
import Derived.Test.YtfimopcklknekaaGreatDoorQBase
namespace Go.Proofs.YtfimopcklknekaaGreatDoor
open Go.RowKit
set_option linter.unusedVariables false

set_option maxHeartbeats 1000000 in
/-- slices.IndexFunc at a closure g that answers p. -/
theorem idxfS (g : Nat) (lb : Array Value) (eg : ∀ args w, (callFunc g args).run Tryz.prog w = .ok (.enter g args) w) (p : ByteArray → Bool) (xs : List (ByteArray)) (a : Option Addr) (c : Nat) (w : World) (hn : xs.length ≤ 9223372036854775807) (hr : RowAt w w.heap.size a (strCells xs))
    (hg : ∀ x ∈ xs, ∀ W, Below w.heap.size w W → Calls Tryz.prog g (#[.string x] ++ lb) W fun e w' => e = .returned (.bool (p x)) ∧ Below W.heap.size W w') :
    Calls Tryz.prog 47 #[.slice a xs.length c, .func (.func g) #[] lb] w (IdxPost (xs.any p) w) := by
  have HR := Lib.hid hr
  have HG := Lib.hid hg
  clear hr hg
  go_enter Tryz.func47, Tryz.ntmps47
  go_wp2_with fail
  go_loopw [8] (fun i wr => ∃ k : Nat, k ≤ xs.length ∧ i = .int .i64 k ∧ Hid ((xs.take k).any p = false) ∧ Below w.heap.size w wr) (fun i _ => xs.length - (intOf i).toNat)
  case atStart => exact ⟨0, by omega, rfl, Lib.hid (by simp), Below.refl _ _⟩
  case round =>
    obtain ⟨k, hk, rfl, hno, hbw⟩ := hrel
    by_cases hlt : k < xs.length
    · obtain ⟨b, off, rfl, hb, hc⟩ := (HR.out.below hbw).str (by omega)
      have hck := hc k hlt
      have hmem := List.getElem_mem hlt
      have hstep := Lib.hid (any_take_succ xs p k hlt)
      have hfound := Lib.hid (any_of_at xs p k hlt)
      clear hc
      obtain ⟨y, hy⟩ : ∃ y, y = xs[k] := ⟨_, rfl⟩
      rw [← hy] at hck hmem hstep hfound
      clear hy

      have HC := Lib.hid (HG.out y hmem wr hbw)
      obtain ⟨r, hr⟩ : ∃ r, p y = r := ⟨_, rfl⟩
      have HRR := Lib.hid hr
      clear hr hmem
      go_wp2_with fail
      refine HC.out.mono ?_
      rw [HRR.out]
      rintro e w1 ⟨rfl, hb1⟩
      have hbw1 := hbw.trans (hb1.mono hbw.size)
      cases r
      · go_wp2_with fail
        go_roundw
        case rel => exact ⟨k + 1, by omega, by go_num, Lib.hid (by rw [hstep.out, hno.out, HRR.out]; rfl), hbw1⟩
        case measure => simp [intOf]; omega
      · go_wp2_with fail
        go_ret
        exact ⟨(k : Int), by rw [hfound.out HRR.out]; simp, rfl, hbw1⟩
    · have hall := Lib.hid (show xs.any p = false by
        have := hno.out
        rwa [List.take_of_length_le (by omega)] at this)
      go_wp2_with fail
      go_ret
      exact ⟨-1, by rw [hall.out]; simp, rfl, hbw⟩
theorem contfS (g : Nat) (lb : Array Value) (eg : ∀ args w, (callFunc g args).run Tryz.prog w = .ok (.enter g args) w) (p : ByteArray → Bool) (r : Bool) (xs : List (ByteArray)) (hp : xs.any p = r) (a : Option Addr) (c : Nat) (w : World) (hn : xs.length ≤ 9223372036854775807) (hr : RowAt w w.heap.size a (strCells xs))
    (hg : ∀ x ∈ xs, ∀ W, Below w.heap.size w W → Calls Tryz.prog g (#[.string x] ++ lb) W fun e w' => e = .returned (.bool (p x)) ∧ Below W.heap.size W w') :
    Calls Tryz.prog 30 #[.slice a xs.length c, .func (.func g) #[] lb] w (ValPost (.bool r) w) := by
  have HR := Lib.hid hr
  have HG := Lib.hid hg
  have HP := Lib.hid hp
  have EG := Lib.hid eg
  clear hr hg eg hp
  go_enter Tryz.func30, Tryz.ntmps30
  go_wp2_with fail
  refine (idxfS g lb EG.out p xs a c w hn HR.out HG.out).mono ?_
  rw [HP.out]
  rintro e w1 ⟨q, hq, rfl, hb1⟩
  have HRR := Lib.hid hq
  clear hq
  go_wp2_with fail
  go_ret
  exact ⟨by rw [← HRR.out]; rfl, hb1⟩

set_option maxHeartbeats 1000000 in
/-- slices.IndexFunc at a closure g that answers p. -/
theorem idxfC (g : Nat) (lb : Array Value) (eg : ∀ args w, (callFunc g args).run Tryz.prog w = .ok (.enter g args) w) (p : CondV → Bool) (xs : List (CondV)) (a : Option Addr) (c : Nat) (w : World) (hn : xs.length ≤ 9223372036854775807) (hr : RowAt w w.heap.size a (condCells xs))
    (hg : ∀ x ∈ xs, ∀ W, Below w.heap.size w W → Calls Tryz.prog g (#[condAgg x] ++ lb) W fun e w' => e = .returned (.bool (p x)) ∧ Below W.heap.size W w') :
    Calls Tryz.prog 48 #[.slice a xs.length c, .func (.func g) #[] lb] w (IdxPost (xs.any p) w) := by
  have HR := Lib.hid hr
  have HG := Lib.hid hg
  clear hr hg
  go_enter Tryz.func48, Tryz.ntmps48
  go_wp2_with fail
  go_loopw [8] (fun i wr => ∃ k : Nat, k ≤ xs.length ∧ i = .int .i64 k ∧ Hid ((xs.take k).any p = false) ∧ Below w.heap.size w wr) (fun i _ => xs.length - (intOf i).toNat)
  case atStart => exact ⟨0, by omega, rfl, Lib.hid (by simp), Below.refl _ _⟩
  case round =>
    obtain ⟨k, hk, rfl, hno, hbw⟩ := hrel
    by_cases hlt : k < xs.length
    · obtain ⟨b, off, rfl, hb, hc⟩ := (HR.out.below hbw).cond (by omega)
      have hck := hc k hlt
      have hmem := List.getElem_mem hlt
      have hstep := Lib.hid (any_take_succ xs p k hlt)
      have hfound := Lib.hid (any_of_at xs p k hlt)
      clear hc
      obtain ⟨y, hy⟩ : ∃ y, y = xs[k] := ⟨_, rfl⟩
      rw [← hy] at hck hmem hstep hfound
      clear hy
      obtain ⟨hc1, hc2, hc3⟩ := hck
      have HC := Lib.hid (HG.out y hmem wr hbw)
      obtain ⟨r, hr⟩ : ∃ r, p y = r := ⟨_, rfl⟩
      have HRR := Lib.hid hr
      clear hr hmem
      go_wp2_with fail
      refine HC.out.mono ?_
      rw [HRR.out]
      rintro e w1 ⟨rfl, hb1⟩
      have hbw1 := hbw.trans (hb1.mono hbw.size)
      cases r
      · go_wp2_with fail
        go_roundw
        case rel => exact ⟨k + 1, by omega, by go_num, Lib.hid (by rw [hstep.out, hno.out, HRR.out]; rfl), hbw1⟩
        case measure => simp [intOf]; omega
      · go_wp2_with fail
        go_ret
        exact ⟨(k : Int), by rw [hfound.out HRR.out]; simp, rfl, hbw1⟩
    · have hall := Lib.hid (show xs.any p = false by
        have := hno.out
        rwa [List.take_of_length_le (by omega)] at this)
      go_wp2_with fail
      go_ret
      exact ⟨-1, by rw [hall.out]; simp, rfl, hbw⟩
theorem contfC (g : Nat) (lb : Array Value) (eg : ∀ args w, (callFunc g args).run Tryz.prog w = .ok (.enter g args) w) (p : CondV → Bool) (r : Bool) (xs : List (CondV)) (hp : xs.any p = r) (a : Option Addr) (c : Nat) (w : World) (hn : xs.length ≤ 9223372036854775807) (hr : RowAt w w.heap.size a (condCells xs))
    (hg : ∀ x ∈ xs, ∀ W, Below w.heap.size w W → Calls Tryz.prog g (#[condAgg x] ++ lb) W fun e w' => e = .returned (.bool (p x)) ∧ Below W.heap.size W w') :
    Calls Tryz.prog 32 #[.slice a xs.length c, .func (.func g) #[] lb] w (ValPost (.bool r) w) := by
  have HR := Lib.hid hr
  have HG := Lib.hid hg
  have HP := Lib.hid hp
  have EG := Lib.hid eg
  clear hr hg eg hp
  go_enter Tryz.func32, Tryz.ntmps32
  go_wp2_with fail
  refine (idxfC g lb EG.out p xs a c w hn HR.out HG.out).mono ?_
  rw [HP.out]
  rintro e w1 ⟨q, hq, rfl, hb1⟩
  have HRR := Lib.hid hq
  clear hq
  go_wp2_with fail
  go_ret
  exact ⟨by rw [← HRR.out]; rfl, hb1⟩
end Go.Proofs.YtfimopcklknekaaGreatDoor
