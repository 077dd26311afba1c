/- Contracts of the functions on slices of strings. -/
import Derived.Test.YtfimopcklknekaaGreatDoorProg
import Derived.Test.YtfimopcklknekaaGreatDoorRow
namespace Go.Proofs.YtfimopcklknekaaGreatDoor
open Go.RowKit
set_option linter.unusedVariables false

set_option maxHeartbeats 1000000 in
theorem szStringS_any (xs : List ByteArray) (a : Option Addr) (c B : Nat) (left : Int) (w : World) (h0 : 0 ≤ left) (h1 : left ≤ 1048576) (hn : xs.length ≤ 9223372036854775807)
    (hs : ∀ x ∈ xs, x.size ≤ 9223372036854775807) (hr : RowAt w B a (strCells xs)) :
    Calls Tryz.prog 9 #[.slice a xs.length c, .int .i64 left] w (SzPost (strsNeed xs) left w) := by
  by_cases hl : left < xs.length
  · have HF := Lib.hid (show left < (strsNeed xs : Int) from by unfold strsNeed; omega)
    go_enter Tryz.func9, Tryz.ntmps9
    go_wp2_with fail
    go_ret
    exact ⟨-1, .inr ⟨HF.out, rfl⟩, rfl, Below.refl _ _⟩
  · have hl' : (xs.length : Int) ≤ left := by omega
    have HS := Lib.hid hs
    have HR := Lib.hid hr
    clear hs hr hl
    go_enter Tryz.func9, Tryz.ntmps9
    go_wp2_with fail
    go_loop [1, 5] (fun l i => ∃ (k : Nat) (x : Int), k ≤ xs.length ∧ i = .int .i64 k ∧ l = .int .i64 x ∧ 0 ≤ x ∧ x + xs.length + ((xs.take k).map ByteArray.size).sum = left) (fun _ i => xs.length - (intOf i).toNat)
    case atStart => exact ⟨0, left - xs.length, by omega, rfl, rfl, by omega, by simp⟩
    case round =>
      obtain ⟨k, x, hk, rfl, rfl, hx, he⟩ := hrel
      have HE := Lib.hid he
      have hx2 : x ≤ 1048576 := by omega
      clear he
      by_cases hlt : k < xs.length
      · obtain ⟨b, off, rfl, hb, hc⟩ := HR.out.str (by omega)
        have hck := hc k hlt
        have hsz := HS.out _ (List.getElem_mem hlt)
        have hst := Lib.hid (sum_take_succ xs k hlt)
        have hle := Lib.hid (sum_take_le xs (k + 1))
        clear hc
        obtain ⟨y, hy⟩ : ∃ y, y = xs[k] := ⟨_, rfl⟩
        rw [← hy] at hck hsz hst
        clear hy
        by_cases hneg : x < y.size
        · have HF := Lib.hid (show left < (strsNeed xs : Int) from by have := HE.out; have := hst.out; have := hle.out; unfold strsNeed; omega)
          go_wp2_with fail
          go_ret
          exact ⟨-1, .inr ⟨HF.out, rfl⟩, rfl, Below.refl _ _⟩
        · go_wp2_with fail
          go_round
          case rel => exact ⟨k + 1, x - y.size, by omega, by go_num, rfl, by omega, by have := HE.out; have := hst.out; omega⟩
          case measure => simp [intOf]; omega
      · have HF := Lib.hid (show (strsNeed xs : Int) = left - x from by have := HE.out; rw [List.take_of_length_le (by omega)] at this; unfold strsNeed; omega)
        go_wp2_with fail
        go_ret
        exact ⟨x, .inl ⟨by have := HF.out; omega, by have := HF.out; omega⟩, rfl, Below.refl _ _⟩

theorem string_info : (Tryz.prog.info? 9).map (fun i => (i.zero, i.size, i.bytes)) = some (some (.string ⟨#[]⟩), 1, 16) := by kernel_rfl

set_option maxHeartbeats 1000000 in
theorem toStringS_any (xs : List ByteArray) (a : Option Addr) (c : Nat) (w : World) (hn : xs.length ≤ 1048576) (hr : RowAt w w.heap.size a (strCells xs)) :
    Calls Tryz.prog 13 #[.slice a xs.length c] w (RowPost 9 1 xs.length (strCells xs) w) := by
  obtain ⟨i0, hi0, hz0, hz1, hz2⟩ := info_parts string_info
  have hmk := fun W => run_make_n (P := Tryz.prog) 22 9 i0 _ Tryz.underlying22 hi0 hz0 xs.length (by rw [hz2]; omega) (by omega) W
  rw [hz1, Nat.mul_one] at hmk
  have hsz := size_madeCells (Value.string ⟨#[]⟩).cells xs.length
  obtain ⟨mc, hmc⟩ : ∃ mc, mc = madeCells (Value.string ⟨#[]⟩).cells xs.length := ⟨_, rfl⟩
  rw [← hmc] at hmk hsz
  have HR := Lib.hid hr
  have HSZ := Lib.hid hsz
  clear hr hmc hsz
  go_enter Tryz.func13, Tryz.ntmps13
  go_wp2_with fail
  go_loopw [4] (fun i wr => ∃ k : Nat, k ≤ xs.length ∧ i = .int .i64 k ∧ Filled wr w.heap.size 9 xs.length k (strCells xs) ∧ Below w.heap.size w wr) (fun i _ => xs.length - (intOf i).toNat)
  case atStart => exact ⟨0, by omega, rfl, Filled.new _ _ _ _ _ HSZ.out, (Below.refl _ _).alloc (Nat.le_refl _) _⟩
  case round =>
    obtain ⟨k, hk, rfl, hf, hbw⟩ := hrel
    by_cases hlt : k < xs.length
    · obtain ⟨b, off, rfl, hb, hc⟩ := (HR.out.below hbw).str (by omega)
      have hck := hc k hlt
      obtain ⟨v0, hv0⟩ := hf.cell hlt
      have hfz := hf.frozen k
      have hput := Lib.hid (hf.put hlt (strCells_at hlt))
      obtain ⟨y, hy⟩ : ∃ y, y = xs[k] := ⟨_, rfl⟩
      rw [← hy] at hck hput
      clear hc hf hy
      go_wp2_with fail
      go_roundw
      case rel => exact ⟨k + 1, by omega, by go_num, hput.out, hbw.setCell (p := ⟨w.heap.size, k, none⟩) (Nat.le_refl _) _⟩
      case measure => simp [intOf]; omega
    · have e : k = xs.length := by omega
      subst e
      go_wp2_with fail
      go_ret
      refine ⟨_, rfl, Filled.own (size := 1) (by rw [Nat.mul_one]; exact hf) (by rw [strCells_length, Nat.mul_one]) (Nat.le_refl _) (by simp only [maxLen]; omega), hbw⟩

theorem toList_beq (x y : ByteArray) : (x.toList == y.toList) = decide (x = y) := by
  rw [Bool.eq_iff_iff]
  simp only [beq_iff_eq, decide_eq_true_eq]
  constructor
  · intro h
    rw [ByteArray.toList_eq, ByteArray.toList_eq] at h
    exact WideShapes.bytes_inj h
  · intro h; rw [h]

theorem take_eq_succ {α : Type} (xs ys : List α) (k : Nat) (hx : k < xs.length) (hy : k < ys.length) (h : xs.take k = ys.take k) (he : xs[k] = ys[k]) : xs.take (k + 1) = ys.take (k + 1) := by
  rw [List.take_succ_eq_append_getElem hx, List.take_succ_eq_append_getElem hy, h, he]
theorem ne_of_at {α : Type} (xs ys : List α) (k : Nat) (hx : k < xs.length) (hy : k < ys.length) (he : xs[k] ≠ ys[k]) : xs ≠ ys := by
  rintro rfl
  exact he rfl

set_option maxHeartbeats 1000000 in
theorem eqStringS_any (xs ys : List ByteArray) (a a2 : Option Addr) (c c2 B : Nat) (r : Bool) (hr : decide (xs = ys) = r) (w : World) (hn : xs.length ≤ 9223372036854775807) (hn2 : ys.length ≤ 9223372036854775807)
    (h1 : RowAt w B a (strCells xs)) (h2 : RowAt w B a2 (strCells ys)) :
    Calls Tryz.prog 18 #[.slice a xs.length c, .slice a2 ys.length c2] w fun e w' => e = .returned (.bool r) ∧ ∃ m, w' = w.drewN m := by
  have HRes := Lib.hid hr
  clear hr
  by_cases hlen : xs.length = ys.length
  · have HL := Lib.hid hlen
    have k1 : ((xs.length : Int) != (ys.length : Int)) = false := by rw [hlen]; simp
    have H1 := Lib.hid h1
    have H2 := Lib.hid h2
    clear h1 h2 hlen
    go_enter Tryz.func18, Tryz.ntmps18
    go_wp2_with fail
    go_loopw [5] (fun i wr => ∃ (k m : Nat), k ≤ xs.length ∧ i = .int .i64 k ∧ Hid (xs.take k = ys.take k) ∧ wr = w.drewN m) (fun i _ => xs.length - (intOf i).toNat)
    case atStart => exact ⟨0, 0, by omega, rfl, Lib.hid rfl, rfl⟩
    case round =>
      obtain ⟨k, m, hk, rfl, htk, rfl⟩ := hrel
      by_cases hlt : k < xs.length
      · have hlt2 : k < ys.length := by have := HL.out; omega
        obtain ⟨b, off, rfl, hb, hc⟩ := H1.out.str (by omega)
        obtain ⟨b2, off2, rfl, hb2, hc2⟩ := H2.out.str (by omega)
        have hck := hc k hlt
        have hck2 := hc2 k hlt2
        have hstep := Lib.hid (take_eq_succ xs ys k hlt hlt2 htk.out)
        have hno := Lib.hid (ne_of_at xs ys k hlt hlt2)
        have b1 : (0 : Int) ≤ (k : Int) := by omega
        have b2' : (k : Int) < (xs.length : Int) := by omega
        have b3 : (k : Int) < (ys.length : Int) := by omega
        clear hc hc2
        obtain ⟨y, hy⟩ : ∃ y, y = xs[k] := ⟨_, rfl⟩
        obtain ⟨y2, hy2⟩ : ∃ y, y = ys[k] := ⟨_, rfl⟩
        rw [← hy] at hck hstep hno
        rw [← hy2] at hck2 hstep hno
        clear hy hy2
        by_cases hq : y = y2
        · have hq' : (y.toList == y2.toList) = true := by rw [toList_beq]; simpa using hq
          have HQ := Lib.hid hq
          clear hq
          go_wp2_with fail
          go_quiet (fail)
          go_wp2_with fail
          go_roundw
          case rel => exact ⟨k + 1, _, by omega, by go_num, Lib.hid (hstep.out HQ.out), rfl⟩
          case measure => simp [intOf]; omega
        · have hq' : (y.toList == y2.toList) = false := by rw [toList_beq]; simpa using hq
          have HQ := Lib.hid hq
          clear hq
          go_wp2_with fail
          go_quiet (fail)
          go_wp2_with fail
          go_ret
          refine ⟨?_, _, World.drewN_drewN _ _ _⟩
          rw [← HRes.out, decide_eq_false (hno.out HQ.out)]
          rfl
      · have hall := Lib.hid (show xs = ys from by
          have := htk.out
          rwa [List.take_of_length_le (by omega), List.take_of_length_le (by have := HL.out; omega)] at this)
        go_wp2_with fail
        go_ret
        refine ⟨?_, _, rfl⟩
        rw [← HRes.out, decide_eq_true hall.out]
        rfl
  · have k1 : ((xs.length : Int) != (ys.length : Int)) = true := bne_iff_ne.2 (by omega)
    have HNE := Lib.hid (show xs ≠ ys from fun h => hlen (by rw [h]))
    clear hlen
    go_enter Tryz.func18, Tryz.ntmps18
    go_wp2_with fail
    go_ret
    refine ⟨?_, 0, rfl⟩
    rw [← HRes.out, decide_eq_false HNE.out]
    rfl
end Go.Proofs.YtfimopcklknekaaGreatDoor
