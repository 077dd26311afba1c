/- The walk of the law FnExactCondTrue. -/
import Derived.Test.YtfimopcklknekaaDoorCondTrue
namespace Go.Proofs.YtfimopcklknekaaDoor
open Go.RowKit Go.Shelf
set_option linter.unusedVariables false

set_option maxHeartbeats 2000000 in
theorem FnExactCondTrue_walk (x : ByteArray) (c : CondV) (w : World) (hx : x.size ≤ 9223372036854775807) (hc1 : c.1.size ≤ 9223372036854775807) (hc2 : c.2.2.size ≤ 9223372036854775807) (ht : Tab w) :
    Calls Tryd.prog 7 #[.string x, condAgg c] w fun e w' => e = .returned (.bool true) ∧ Below w.heap.size w w' := by
  obtain ⟨col, op, v⟩ := c
  dsimp only at hc1 hc2
  by_cases hbig : 1048576 < x.size
  · have q1 : (1048576 : Int) < (x.size : Int) := by omega
    unfold condAgg
    go_enter Tryd.func7, Tryd.ntmps7
    go_wp2_with fail
    go_ret
    exact ⟨rfl, (Below.refl _ _).alloc (Nat.le_refl _) _⟩
  have q1 : ¬ (1048576 : Int) < (x.size : Int) := by omega
  have hx2 : x.size ≤ 1048576 := by omega
  clear hbig
  have hb0 : Below w.heap.size w (w.alloc (.cells #[.string col, .int .i64 op, .string v] 47)) := (Below.refl _ _).alloc (Nat.le_refl _) _
  unfold condAgg
  go_enter Tryd.func7, Tryd.ntmps7
  go_wp2_with fail
  have b0 := Blk.new w 47 #[.string col, .int .i64 op, .string v]
  generalize hW : w.alloc (.cells #[.string col, .int .i64 op, .string v] 47) = w0 at *
  clear hW
  refine (szCond_any (col, op, v) 1048576 w0 (by omega) (by omega) hc1 hc2).mono ?_
  rintro e w1 ⟨r, hr, rfl, hb1⟩
  have hbw1 := hb0.trans (hb1.mono hb0.size)
  have b1 := b0.below hb1 b0.lt
  rcases hr with ⟨hle, hr⟩ | ⟨hgt, hr⟩
  · have hv : v.size ≤ 1048576 := by
      have : col.size + v.size ≤ 1048576 := by
        have h : ((condNeed (col, op, v) : Nat) : Int) ≤ 1048576 := hle
        unfold condNeed at h
        dsimp only at h
        omega
      omega
    have hr0 : 0 ≤ r := by omega
    have q2 : ¬ r < 0 := by omega
    clear hle hr hb1 b0
    have c0 : w1.cell? ⟨w.heap.size, 0, none⟩ = some (.string col) := b1.cell 0
    have c1 : w1.cell? ⟨w.heap.size, 1, none⟩ = some (.int .i64 op) := b1.cell 1
    have c2 : w1.cell? ⟨w.heap.size, 2, none⟩ = some (.string v) := b1.cell 2
    go_wp2_with fail
    refine (toCond_any (col, op, v) w1).mono ?_
    rintro e w2 ⟨rfl, hb2⟩
    have hbw2 := hbw1.trans (hb2.mono hbw1.size)
    have b2 := b1.below hb2 b1.lt
    unfold condAgg
    clear c0 c1 c2
    go_wp2_with fail
    refine (condTrue_spec x (col, op, v) w2 hx2 hv).mono ?_
    rintro e w3 ⟨rfl, hb3⟩
    have hbw3 := hbw2.trans (hb3.mono hbw2.size)
    have b3 := b2.below hb3 b2.lt
    have c0 : w3.cell? ⟨w.heap.size, 0, none⟩ = some (.string col) := b3.cell 0
    have c1 : w3.cell? ⟨w.heap.size, 1, none⟩ = some (.int .i64 op) := b3.cell 1
    have c2 : w3.cell? ⟨w.heap.size, 2, none⟩ = some (.string v) := b3.cell 2
    dsimp only
    generalize hres : condTrueB x op v = res at *
    have HRES := Lib.hid hres
    clear hres
    go_wp2_with fail
    refine (toCond_any (col, op, v) w3).mono ?_
    rintro e w4 ⟨rfl, hb4⟩
    have hbw4 := hbw3.trans (hb4.mono hbw3.size)
    unfold condAgg
    clear c0 c1 c2
    go_wp2_with fail
    refine (condTrue_impl x (col, op, v) w4 hx2 hv (ht.below hbw4)).mono ?_
    rintro e w5 ⟨rfl, hb5⟩
    have hbw5 := hbw4.trans (hb5.mono hbw4.size)
    dsimp only
    rw [HRES.out]
    cases res
    · go_wp2_with fail
      go_ret
      exact ⟨rfl, hbw5⟩
    · go_wp2_with fail
      go_ret
      exact ⟨rfl, hbw5⟩
  · have q2 : r < 0 := by omega
    clear hr hgt
    go_wp2_with fail
    go_ret
    exact ⟨rfl, hbw1⟩
end Go.Proofs.YtfimopcklknekaaDoor
