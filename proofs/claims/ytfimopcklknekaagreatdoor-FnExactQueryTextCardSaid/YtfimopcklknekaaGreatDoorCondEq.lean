/- Slices of conditions, compared. -/
import Derived.Test.YtfimopcklknekaaGreatDoorCond
import Derived.Deep.RegionHeld3
namespace Go.Proofs.YtfimopcklknekaaGreatDoor
open Go.RowKit
set_option linter.unusedVariables false

theorem toList_inj (x y : ByteArray) : x.toList = y.toList ↔ x = y := by
  have := toList_beq x y
  rw [Bool.eq_iff_iff] at this
  simpa using this

theorem neq_cond (a b : CondV) (r : Bool) (hr : decide (a = b) = r) (w : World) :
    (binOp .neq 41 (.agg #[.string a.1, .int .i64 a.2.1, .string a.2.2]) (.agg #[.string b.1, .int .i64 b.2.1, .string b.2.2])).run Tryz.prog w = .ok (.bool (!r)) w := by
  obtain ⟨a1, a2, a3⟩ := a
  obtain ⟨b1, b2, b3⟩ := b
  subst hr
  by_cases h1 : a1 = b1 <;> by_cases h2 : a2 = b2 <;> by_cases h3 : a3 = b3 <;> simp [go_sem, binOp, Op.equal, Op.maxDepth, h1, h2, h3, toList_inj]

theorem eqlIn_cond (a b : CondV) (r : Bool) (hr : decide (a = b) = r) (w : World) :
    (Op.equalIn 10000 41 (.agg #[.string a.1, .int .i64 a.2.1, .string a.2.2]) (.agg #[.string b.1, .int .i64 b.2.1, .string b.2.2])).run Tryz.prog w = .ok r w := by
  obtain ⟨a1, a2, a3⟩ := a
  obtain ⟨b1, b2, b3⟩ := b
  subst hr
  by_cases h1 : a1 = b1 <;> by_cases h2 : a2 = b2 <;> by_cases h3 : a3 = b3 <;> simp [go_sem, h1, h2, h3, toList_inj]


set_option maxHeartbeats 2000000 in
theorem eqCondS_same (xs : List CondV) (a a2 : Option Addr) (c c2 : Nat) (w : World) (hn : xs.length ≤ 9223372036854775807)
    (h1 : RowAt w w.heap.size a (condCells xs)) (h2 : RowAt w w.heap.size a2 (condCells xs)) :
    Calls Tryz.prog 19 #[.slice a xs.length c, .slice a2 xs.length c2] w (ValPost (.bool true) w) := by
  have H1 := Lib.hid h1
  have H2 := Lib.hid h2
  clear h1 h2
  go_enter Tryz.func19, Tryz.ntmps19
  go_wp2_with fail
  go_loopw [5] (fun i wr => ∃ (k : Nat), k ≤ xs.length ∧ i = .int .i64 k ∧ Below w.heap.size w wr) (fun i _ => xs.length - (intOf i).toNat)
  case atStart => exact ⟨0, by omega, rfl, Below.refl _ _⟩
  case round =>
    obtain ⟨k, hk, rfl, hbw⟩ := hrel
    by_cases hlt : k < xs.length
    · obtain ⟨b, off, rfl, hb, hc⟩ := (H1.out.below hbw).cond (by omega)
      obtain ⟨b2, off2, rfl, hb2, hc2⟩ := (H2.out.below hbw).cond (by omega)
      obtain ⟨e1, e2, e3⟩ := hc k hlt
      obtain ⟨f1, f2, f3⟩ := hc2 k hlt
      have b1 : (0 : Int) ≤ (k : Int) := by omega
      have b2' : (k : Int) < (xs.length : Int) := by omega
      have hbr := hbw.size
      clear hc hc2
      obtain ⟨y, hy⟩ : ∃ y, y = xs[k] := ⟨_, rfl⟩
      rw [← hy] at e1 e2 e3 f1 f2 f3
      clear hy
      go_wp2_with fail
      go_region_held3 (fun w' => w'.cell? ⟨b, off + k * 3, none⟩ = some (.string y.1) ∧ w'.cell? ⟨b, off + k * 3 + 1, none⟩ = some (.int .i64 y.2.1) ∧ w'.cell? ⟨b, off + k * 3 + 1 + 1, none⟩ = some (.string y.2.2) ∧ w'.cell? ⟨b2, off2 + k * 3, none⟩ = some (.string y.1) ∧ w'.cell? ⟨b2, off2 + k * 3 + 1, none⟩ = some (.int .i64 y.2.1) ∧ w'.cell? ⟨b2, off2 + k * 3 + 1 + 1, none⟩ = some (.string y.2.2)) (first | (refine ⟨?_, ?_, ?_, ?_, ?_, ?_⟩ <;> (rw [hbc.cell (by simp; omega)]; assumption)) | go_keep) (first | (go_at_call 39; refine (eqCond_any y y true (by simp) _).mono ?_; rintro e w' ⟨rfl, hbc⟩))
      go_wp2_with fail
      go_roundw
      case rel => exact ⟨k + 1, by omega, by go_num, hbw.drew.trans (hbc.mono hbr)⟩
      case measure => simp [intOf]; omega
    · go_wp2_with fail
      go_ret
      exact ⟨rfl, hbw⟩
end Go.Proofs.YtfimopcklknekaaGreatDoor
