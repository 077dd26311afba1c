/- The reference's digits: l01Whole. -/
import Derived.Test.YtbknfkdjhajimaaGreatDoorNumRef
import Derived.Deep.RegionWith
import Derived.Laws.IdiomStrings
namespace Go.Proofs.YtbknfkdjhajimaaGreatDoor
open Go.RowKit Go.Shelf
set_option linter.unusedVariables false

theorem conv_one (w : World) (b : Nat) (x : UInt8) (h : w.cell? ⟨b, 0, none⟩ = some (.int .u8 (x.toNat : Int))) : (convert 22 9 (.slice (some ⟨b, 0, none⟩) 1 1)).run Tryz.prog w = .ok (.string ⟨#[x]⟩) w := by
  have := run_convert_bytes_back w 22 9 5 ⟨b, 0, none⟩ 1 [x] Tryz.underlying22 Tryz.underlying5 Tryz.underlying9 (fun j hj => by
    have : j = 0 := by simpa using hj
    subst this
    exact h)
  exact this

theorem below_d {w w1 : World} (h : Below w.drew.heap.size w.drew w1) : Below w.heap.size w w1 := ⟨h.os, h.tape, h.output, h.size, h.block⟩
theorem below_da {w w1 : World} {o : Obj} (h : Below (w.drew.alloc o).heap.size (w.drew.alloc o) w1) : Below w.heap.size w w1 :=
  below_d (((Below.refl _ _).alloc (Nat.le_refl _) o).trans (h.mono (by simp)))

set_option maxHeartbeats 2000000 in
theorem l01Whole_any (n : Nat) : ∀ (w : World), n ≤ 9223372036854775807 → Calls Tryz.prog 179 #[.int .i64 (n : Int)] w (StrPost (wholeD n) w) := by
  induction n using Nat.strongRecOn with
  | _ n ih =>
    intro w hn
    by_cases h0 : n = 0
    · subst h0
      go_enter Tryz.func179, Tryz.ntmps179
      go_wp2_with fail
      go_ret
      exact ⟨⟨#[]⟩, by rw [wholeD_zero], rfl, Below.refl _ _⟩
    · have hq : n / 10 < n := by omega
      have ih' := ih (n / 10) hq
      have HW := Lib.hid (wholeD_pos h0)
      have e1 : (n : Int).tdiv 10 = ((n / 10 : Nat) : Int) := by rw [Int.tdiv_eq_ediv_of_nonneg (by omega)]; omega
      have e2 : (n : Int).tmod 10 = ((n % 10 : Nat) : Int) := by rw [Int.tmod_eq_emod_of_nonneg (by omega)]; omega
      have e3 : (n : Int) / 10 = ((n / 10 : Nat) : Int) := by omega
      have e4 : (n : Int) % 10 = ((n % 10 : Nat) : Int) := by omega
      have hq2 : n / 10 ≤ 922337203685477580 := by omega
      have hr : n % 10 < 10 := by omega
      have e0 : ((n : Int) == 0) = false := beq_eq_false_iff_ne.2 (by omega)
      clear ih hq
      generalize n / 10 = q at *
      generalize n % 10 = r at *
      obtain ⟨x, hx, HX⟩ : ∃ x : UInt8, (48 + (r : Int)) = (x.toNat : Int) ∧ Hid (x = UInt8.ofNat (48 + r)) := ⟨_, by rw [toNat_dig hr]; omega, Lib.hid rfl⟩
      have hx2 : x.toNat ≤ 255 := by have := UInt8.toNat_lt x; omega
      have e5 : IntKind.i64.wrap (x.toNat : Int) = (x.toNat : Int) := IntWalk.i64_in _ (by omega)
      have e7 : IntKind.i64.wrap (q : Int) = (q : Int) := IntWalk.i64_in _ (by omega)
      have e6 : IntKind.u8.wrap (x.toNat : Int) = (x.toNat : Int) := by
        show (x.toNat : Int) % 256 = _
        omega
      have hc := conv_one (x := x)
      go_enter Tryz.func179, Tryz.ntmps179
      go_wp2_with fail
      go_region_with ((go_at_call 179; refine (ih' _ (by omega)).mono ?_; rintro e w1 ⟨t, ht, rfl, hb⟩; have HB := Lib.hid hb; have HT := Lib.hid ht; have hq := fun (o : Nat) => hb.cell (p := ⟨w.heap.size, o, none⟩); have ts : t.size ≤ 1000 := (by have h1 := size_len t; rw [ht] at h1; have := wholeD_len_le (n := q) (k := 19) (by omega); omega); clear ht hb))
      all_goals
        go_wp2_with fail
        go_ret
        refine ⟨_, by rw [HW.out, app_list, HT.out, ← HX.out], rfl, ?_⟩
        first
        | exact (below_d HB.out).alloc (below_d HB.out).size _
        | exact below_da HB.out
end Go.Proofs.YtbknfkdjhajimaaGreatDoor
