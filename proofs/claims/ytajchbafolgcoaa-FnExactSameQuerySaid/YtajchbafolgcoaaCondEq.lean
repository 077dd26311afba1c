/- Slices of conditions, compared. -/
import Derived.Test.YtajchbafolgcoaaCond
import Derived.Deep.RegionHeld3
namespace Go.Proofs.Ytajchbafolgcoaa
open Go.RowKit
set_option linter.unusedVariables false

theorem toList_inj (x y : ByteArray) : x.toList = y.toList ↔ x = y := by
  have := toList_beq x y
  rw [Bool.eq_iff_iff] at this
  simpa using this

theorem neq_cond (a b : CondV) (r : Bool) (hr : decide (a = b) = r) (w : World) :
    (binOp .neq 98 (.agg #[.string a.1, .int .i64 a.2.1, .string a.2.2]) (.agg #[.string b.1, .int .i64 b.2.1, .string b.2.2])).run Try.prog w = .ok (.bool (!r)) w := by
  obtain ⟨a1, a2, a3⟩ := a
  obtain ⟨b1, b2, b3⟩ := b
  subst hr
  by_cases h1 : a1 = b1 <;> by_cases h2 : a2 = b2 <;> by_cases h3 : a3 = b3 <;> simp [go_sem, binOp, Op.equal, Op.maxDepth, h1, h2, h3, toList_inj]

theorem eqlIn_cond (a b : CondV) (r : Bool) (hr : decide (a = b) = r) (w : World) :
    (Op.equalIn 10000 98 (.agg #[.string a.1, .int .i64 a.2.1, .string a.2.2]) (.agg #[.string b.1, .int .i64 b.2.1, .string b.2.2])).run Try.prog w = .ok r w := by
  obtain ⟨a1, a2, a3⟩ := a
  obtain ⟨b1, b2, b3⟩ := b
  subst hr
  by_cases h1 : a1 = b1 <;> by_cases h2 : a2 = b2 <;> by_cases h3 : a3 = b3 <;> simp [go_sem, h1, h2, h3, toList_inj]

set_option maxHeartbeats 1000000 in
theorem equalConds_any (xs ys : List CondV) (a a2 : Option Addr) (c c2 B : Nat) (r : Bool) (hr : decide (xs = ys) = r) (w : World) (hn : xs.length ≤ 9223372036854775807) (hn2 : ys.length ≤ 9223372036854775807)
    (h1 : RowAt w B a (condCells xs)) (h2 : RowAt w B a2 (condCells ys)) :
    Calls Try.prog 64 #[.slice a xs.length c, .slice a2 ys.length c2] w fun e w' => e = .returned (.bool r) ∧ ∃ m, w' = w.drewN m := by
  have HRes := Lib.hid hr
  clear hr
  by_cases hlen : xs.length = ys.length
  · have HL := Lib.hid hlen
    have k1 : ((xs.length : Int) != (ys.length : Int)) = false := by rw [hlen]; simp
    have H1 := Lib.hid h1
    have H2 := Lib.hid h2
    clear h1 h2 hlen
    go_enter Try.func64, Try.ntmps64
    go_wp2_with fail
    go_loopw [13] (fun i wr => ∃ (k m : Nat), k ≤ xs.length ∧ i = .int .i64 k ∧ Hid (xs.take k = ys.take k) ∧ wr = w.drewN m) (fun i _ => xs.length - (intOf i).toNat)
    case atStart => exact ⟨0, 0, by omega, rfl, Lib.hid rfl, rfl⟩
    case round =>
      obtain ⟨k, m, hk, rfl, htk, rfl⟩ := hrel
      by_cases hlt : k < xs.length
      · have hlt2 : k < ys.length := by have := HL.out; omega
        obtain ⟨b, off, rfl, hb, hc⟩ := H1.out.cond (by omega)
        obtain ⟨b2, off2, rfl, hb2, hc2⟩ := H2.out.cond (by omega)
        obtain ⟨e1, e2, e3⟩ := hc k hlt
        obtain ⟨f1, f2, f3⟩ := hc2 k hlt2
        have hstep := Lib.hid (take_eq_succ xs ys k hlt hlt2 htk.out)
        have hno := Lib.hid (ne_of_at xs ys k hlt hlt2)
        have b1 : (0 : Int) ≤ (k : Int) := by omega
        have b2' : (k : Int) < (xs.length : Int) := by omega
        have b3 : (k : Int) < (ys.length : Int) := by omega
        clear hc hc2
        obtain ⟨y, hy⟩ : ∃ y, y = xs[k] := ⟨_, rfl⟩
        obtain ⟨y2, hy2⟩ : ∃ y, y = ys[k] := ⟨_, rfl⟩
        rw [← hy] at e1 e2 e3 hstep hno
        rw [← hy2] at f1 f2 f3 hstep hno
        clear hy hy2
        by_cases hq : y = y2
        · have g1 := neq_cond y y2 true (by simpa using hq)
          have g2 := eqlIn_cond y y2 true (by simpa using hq)
          have HQ := Lib.hid hq
          clear hq
          go_wp2_with fail
          go_quiet (fail)
          go_wp2_with fail
          go_roundw
          case rel => exact ⟨k + 1, _, by omega, by go_num, Lib.hid (hstep.out HQ.out), rfl⟩
          case measure => simp [intOf]; omega
        · have g1 := neq_cond y y2 false (by simpa using hq)
          have g2 := eqlIn_cond y y2 false (by simpa using hq)
          have HQ := Lib.hid hq
          clear hq
          go_wp2_with fail
          go_quiet (fail)
          go_wp2_with fail
          go_ret
          refine ⟨?_, _, World.drewN_drewN _ _ _⟩
          rw [← HRes.out, decide_eq_false (hno.out HQ.out)]
          rfl
      · have hall := Lib.hid (show xs = ys from by
          have := htk.out
          rwa [List.take_of_length_le (by omega), List.take_of_length_le (by have := HL.out; omega)] at this)
        go_wp2_with fail
        go_ret
        refine ⟨?_, _, rfl⟩
        rw [← HRes.out, decide_eq_true hall.out]
        rfl
  · have k1 : ((xs.length : Int) != (ys.length : Int)) = true := bne_iff_ne.2 (by omega)
    have HNE := Lib.hid (show xs ≠ ys from fun h => hlen (by rw [h]))
    clear hlen
    go_enter Try.func64, Try.ntmps64
    go_wp2_with fail
    go_ret
    refine ⟨?_, 0, rfl⟩
    rw [← HRes.out, decide_eq_false HNE.out]
    rfl

set_option maxHeartbeats 2000000 in
theorem eqCondS_same (xs : List CondV) (a a2 : Option Addr) (c c2 : Nat) (w : World) (hn : xs.length ≤ 9223372036854775807)
    (h1 : RowAt w w.heap.size a (condCells xs)) (h2 : RowAt w w.heap.size a2 (condCells xs)) :
    Calls Try.prog 66 #[.slice a xs.length c, .slice a2 xs.length c2] w (ValPost (.bool true) w) := by
  have H1 := Lib.hid h1
  have H2 := Lib.hid h2
  clear h1 h2
  go_enter Try.func66, Try.ntmps66
  go_wp2_with fail
  go_loopw [5] (fun i wr => ∃ (k : Nat), k ≤ xs.length ∧ i = .int .i64 k ∧ Below w.heap.size w wr) (fun i _ => xs.length - (intOf i).toNat)
  case atStart => exact ⟨0, by omega, rfl, Below.refl _ _⟩
  case round =>
    obtain ⟨k, hk, rfl, hbw⟩ := hrel
    by_cases hlt : k < xs.length
    · obtain ⟨b, off, rfl, hb, hc⟩ := (H1.out.below hbw).cond (by omega)
      obtain ⟨b2, off2, rfl, hb2, hc2⟩ := (H2.out.below hbw).cond (by omega)
      obtain ⟨e1, e2, e3⟩ := hc k hlt
      obtain ⟨f1, f2, f3⟩ := hc2 k hlt
      have b1 : (0 : Int) ≤ (k : Int) := by omega
      have b2' : (k : Int) < (xs.length : Int) := by omega
      have hbr := hbw.size
      clear hc hc2
      obtain ⟨y, hy⟩ : ∃ y, y = xs[k] := ⟨_, rfl⟩
      rw [← hy] at e1 e2 e3 f1 f2 f3
      clear hy
      go_wp2_with fail
      go_region_held3 (fun w' => w'.cell? ⟨b, off + k * 3, none⟩ = some (.string y.1) ∧ w'.cell? ⟨b, off + k * 3 + 1, none⟩ = some (.int .i64 y.2.1) ∧ w'.cell? ⟨b, off + k * 3 + 1 + 1, none⟩ = some (.string y.2.2) ∧ w'.cell? ⟨b2, off2 + k * 3, none⟩ = some (.string y.1) ∧ w'.cell? ⟨b2, off2 + k * 3 + 1, none⟩ = some (.int .i64 y.2.1) ∧ w'.cell? ⟨b2, off2 + k * 3 + 1 + 1, none⟩ = some (.string y.2.2)) (first | (refine ⟨?_, ?_, ?_, ?_, ?_, ?_⟩ <;> (rw [hbc.cell (by simp; omega)]; assumption)) | go_keep) (first | (go_at_call 116; refine (eqCond_any y y true (by simp) _).mono ?_; rintro e w' ⟨rfl, hbc⟩))
      go_wp2_with fail
      go_roundw
      case rel => exact ⟨k + 1, by omega, by go_num, hbw.drew.trans (hbc.mono hbr)⟩
      case measure => simp [intOf]; omega
    · go_wp2_with fail
      go_ret
      exact ⟨rfl, hbw⟩
end Go.Proofs.Ytajchbafolgcoaa
