/- Small functions under queries and tables: bounds, names, places of texts, values without blanks. -/
import Derived.Test.YtfimopcklknekaaGreatDoorMem2
import Derived.Test.YtfimopcklknekaaGreatDoorName
import Derived.Test.YtfimopcklknekaaGreatDoorCell
import Derived.Test.YtfimopcklknekaaGreatDoorContF
import Derived.Lib.SlicesS
import Derived.Lib.IndexAny
namespace Go.Proofs.YtfimopcklknekaaGreatDoor
open Go.RowKit
set_option linter.unusedVariables false

/-- Between two bounds. -/
def inB (n a b : Int) : Bool := decide (a ≤ n) && decide (n ≤ b)

theorem within_any (n a b : Int) (r : Bool) (hr : inB n a b = r) (w : World) : Calls Tryz.prog 29 #[.int .i64 n, .int .i64 a, .int .i64 b] w fun e w' => e = .returned (.bool r) ∧ w = w' := by
  subst hr
  by_cases h1 : a ≤ n
  · have q1 : decide (a ≤ n) = true := decide_eq_true h1
    have F := Lib.hid (show inB n a b = decide (n ≤ b) by unfold inB; rw [q1]; rfl)
    clear h1
    go_enter Tryz.func29, Tryz.ntmps29
    go_wp2_with fail
    go_ret
    exact ⟨by rw [F.out]; rfl, rfl⟩
  · have q1 : decide (a ≤ n) = false := decide_eq_false h1
    have F := Lib.hid (show inB n a b = false by unfold inB; rw [q1]; rfl)
    clear h1
    go_enter Tryz.func29, Tryz.ntmps29
    go_wp2_with fail
    go_ret
    exact ⟨by rw [F.out]; rfl, rfl⟩
theorem l00In_any (n a b : Int) (r : Bool) (hr : inB n a b = r) (w : World) : Calls Tryz.prog 22 #[.int .i64 n, .int .i64 a, .int .i64 b] w fun e w' => e = .returned (.bool r) ∧ w = w' := by
  subst hr
  by_cases h1 : a ≤ n
  · have q1 : decide (a ≤ n) = true := decide_eq_true h1
    have F := Lib.hid (show inB n a b = decide (n ≤ b) by unfold inB; rw [q1]; rfl)
    clear h1
    go_enter Tryz.func22, Tryz.ntmps22
    go_wp2_with fail
    go_ret
    exact ⟨by rw [F.out]; rfl, rfl⟩
  · have q1 : decide (a ≤ n) = false := decide_eq_false h1
    have F := Lib.hid (show inB n a b = false by unfold inB; rw [q1]; rfl)
    clear h1
    go_enter Tryz.func22, Tryz.ntmps22
    go_wp2_with fail
    go_ret
    exact ⟨by rw [F.out]; rfl, rfl⟩
theorem nameOkS_any (s : ByteArray) (r : Bool) (hr : nameB s = r) (w : World) (hs : s.size ≤ 9223372036854775807) :
    Calls Tryz.prog 21 #[.string s] w fun e w' => e = .returned (.bool r) ∧ w = w' := by
  have HR := Lib.hid hr
  clear hr
  go_enter Tryz.func21, Tryz.ntmps21
  go_wp2_with fail
  refine (l02Name_any s r HR.out w hs).mono ?_
  rintro e w1 ⟨rfl, rfl⟩
  go_wp2_with fail
  go_ret
  exact ⟨rfl, rfl⟩

/-- No blank in it. -/
def blankB (s : ByteArray) : Bool := s.data.toList.contains 32
/-- A condition's value. -/
def valueB (s : ByteArray) : Bool := cellB s && !blankB s

theorem contains_take_succ (l : List UInt8) (c : UInt8) (k : Nat) (h : k < l.length) : (l.take (k + 1)).contains c = ((l.take k).contains c || (c == l[k])) := by
  rw [List.take_succ_eq_append_getElem h, List.contains_eq_any_beq, List.contains_eq_any_beq, List.any_append]
  simp
set_option maxHeartbeats 1000000 in
theorem l30Value_any (s : ByteArray) (r : Bool) (hr : valueB s = r) (w : World) (hs : s.size ≤ 9223372036854775807) :
    Calls Tryz.prog 24 #[.string s] w fun e w' => e = .returned (.bool r) ∧ w = w' := by
  subst hr
  go_enter Tryz.func24, Tryz.ntmps24
  go_wp2_with fail
  go_loop [3] (fun i => ∃ k : Nat, k ≤ s.size ∧ i = .int .i64 k ∧ Hid ((s.data.toList.take k).contains 32 = false)) (fun i => s.size - (intOf i).toNat)
  case atStart => exact ⟨0, by omega, rfl, Lib.hid (by simp)⟩
  case round =>
    obtain ⟨k, hk, rfl, hno⟩ := hrel
    by_cases hlt : k < s.size
    · have hl : k < s.data.toList.length := by rw [Array.length_toList]; exact hlt
      have hstep := Lib.hid (contains_take_succ s.data.toList 32 k hl)
      have hget := Lib.hid (show s.data.toList[k] = s[k] from rfl)
      have hb : s[k].toNat < 256 := UInt8.toNat_lt _
      by_cases h32 : s[k].toNat = 32
      · have q1 : ((s[k].toNat : Int) == 32) = true := beq_iff_eq.2 (by omega)
        have HF := Lib.hid (show valueB s = false by
          have e : s[k] = 32 := UInt8.toNat_inj.1 (by rw [h32]; rfl)
          have : s.data.toList.contains 32 = true := by
            rw [List.contains_iff_mem, ← e, ← hget.out]
            exact List.getElem_mem hl
          unfold valueB blankB
          rw [this]; simp)
        clear h32
        go_wp2_with fail
        go_ret
        exact ⟨by rw [HF.out]; rfl, rfl⟩
      · have q1 : ((s[k].toNat : Int) == 32) = false := beq_eq_false_iff_ne.2 (by omega)
        have HB := Lib.hid (show ((32 : UInt8) == s[k]) = false by
          rw [beq_eq_false_iff_ne]
          intro e
          apply h32
          rw [← e]; rfl)
        clear h32
        go_wp2_with fail
        go_round
        case rel => exact ⟨k + 1, by omega, by go_num, Lib.hid (by rw [hstep.out, hno.out, hget.out, HB.out]; rfl)⟩
        case measure => simp [intOf]; omega
    · have HF := Lib.hid (show valueB s = cellB s by
        have := hno.out
        rw [List.take_of_length_le (by rw [Array.length_toList]; show s.size ≤ k; omega)] at this
        unfold valueB blankB
        rw [this]; simp)
      go_wp2_with fail
      refine (l29Cell_any s w hs).mono ?_
      rintro e w1 ⟨rfl, rfl⟩
      go_wp2_with fail
      go_ret
      exact ⟨by rw [HF.out]; rfl, rfl⟩

theorem getD_at (xs : List ByteArray) (k : Nat) (h : k < xs.length) : xs.getD k ByteArray.empty = xs[k] := by
  rw [List.getD_eq_getElem?_getD, List.getElem?_eq_getElem h]; rfl

set_option maxHeartbeats 1000000 in
theorem l29Place_any (xs : List ByteArray) (x : ByteArray) (a : Option Addr) (n c B : Nat) (hnx : n = xs.length) (w : World) (hn : xs.length ≤ 9223372036854775807) (hr : RowAt w B a (strCells xs)) :
    Calls Tryz.prog 23 #[.slice a n c, .string x] w fun e w' => e = .returned (.int .i64 (Lib.idxOfS xs x)) ∧ w = w' := by
  subst hnx
  have HR := Lib.hid hr
  clear hr
  go_enter Tryz.func23, Tryz.ntmps23
  go_wp2_with fail
  go_loop [5] (fun i => ∃ k : Nat, k ≤ xs.length ∧ i = .int .i64 k ∧ Hid (∀ j, j < k → xs.getD j ByteArray.empty ≠ x)) (fun i => xs.length - (intOf i).toNat)
  case atStart => exact ⟨0, by omega, rfl, Lib.hid (fun j hj => absurd hj (by omega))⟩
  case round =>
    obtain ⟨k, hk, rfl, hno⟩ := hrel
    by_cases hlt : k < xs.length
    · obtain ⟨b, off, rfl, hb, hc⟩ := HR.out.str (by omega)
      have hck := hc k hlt
      have hg := Lib.hid (getD_at xs k hlt)
      clear hc
      obtain ⟨y, hy⟩ : ∃ y, y = xs[k] := ⟨_, rfl⟩
      rw [← hy] at hck hg
      clear hy
      by_cases hq : y = x
      · have q1 : (y.toList == x.toList) = true := by rw [toList_beq]; simpa using hq
        have HF := Lib.hid (show Lib.idxOfS xs x = k by
          have := Lib.idxOfS_hit xs xs.length k x hlt (Nat.le_refl _) (by rw [hg.out, hq]) hno.out
          rwa [List.take_length] at this)
        clear hq
        go_wp2_with fail
        go_ret
        exact ⟨by rw [HF.out]; rfl, rfl⟩
      · have q1 : (y.toList == x.toList) = false := by rw [toList_beq]; simpa using hq
        have HN := Lib.hid (show ∀ j, j < k + 1 → xs.getD j ByteArray.empty ≠ x from fun j hj => by
          by_cases e : j = k
          · subst e; rw [hg.out]; exact hq
          · exact hno.out j (by omega))
        clear hq
        go_wp2_with fail
        go_round
        case rel => exact ⟨k + 1, by omega, by go_num, HN⟩
        case measure => simp [intOf]; omega
    · have HF := Lib.hid (show Lib.idxOfS xs x = -1 by
        have := Lib.idxOfS_miss xs xs.length x (fun j hj => hno.out j (by omega))
        rwa [List.take_length] at this)
      go_wp2_with fail
      go_ret
      exact ⟨by rw [HF.out]; rfl, rfl⟩

/-- A right condition. -/
def condB (c : CondV) : Bool := nameB c.1 && (inB c.2.1 1 4 && valueB c.2.2)

set_option maxHeartbeats 2000000 in
theorem condOk_any (c : CondV) (r : Bool) (hr : condB c = r) (w : World) (h1 : c.1.size ≤ 9223372036854775807) (h2 : c.2.2.size ≤ 9223372036854775807) :
    Calls Tryz.prog 34 #[condAgg c] w (ValPost (.bool r) w) := by
  obtain ⟨col, op, val⟩ := c
  simp only [condAgg, condB] at *
  have HR := Lib.hid hr
  clear hr
  have BW := Lib.hid (fun o => (Below.refl w.heap.size w).alloc (Nat.le_refl _) o)
  obtain ⟨r1, hr1⟩ : ∃ r, nameB col = r := ⟨_, rfl⟩
  have R1 := Lib.hid hr1
  clear hr1
  go_enter Tryz.func34, Tryz.ntmps34
  go_wp2_with fail
  refine (nameOk_any col r1 R1.out _ h1).mono ?_
  rintro e w1 ⟨rfl, rfl⟩
  cases r1
  · go_wp2_with fail
    go_ret
    exact ⟨by rw [← HR.out, R1.out]; rfl, BW.out _⟩
  obtain ⟨r2, hr2⟩ : ∃ r, inB op 1 4 = r := ⟨_, rfl⟩
  have R2 := Lib.hid hr2
  clear hr2
  go_wp2_with fail
  refine (within_any op 1 4 r2 R2.out _).mono ?_
  rintro e w1 ⟨rfl, rfl⟩
  cases r2
  · go_wp2_with fail
    go_ret
    exact ⟨by rw [← HR.out, R1.out, R2.out]; rfl, BW.out _⟩
  obtain ⟨r3, hr3⟩ : ∃ r, cellB val = r := ⟨_, rfl⟩
  have R3 := Lib.hid hr3
  clear hr3
  go_wp2_with fail
  refine (cellOk_any val _ h2).mono ?_
  rw [R3.out]
  rintro e w1 ⟨rfl, hb1⟩
  have bA := (Blk.new w 41 #[.string col, .int .i64 op, .string val]).below hb1 (by simp)
  have hbw := (BW.out _).trans (hb1.mono (by simp))
  obtain ⟨x0, x1, x2⟩ := bA.c3
  clear bA hb1
  cases r3
  · go_wp2_with fail
    go_ret
    exact ⟨by rw [← HR.out, R1.out, R2.out]; simp [valueB, R3.out], hbw⟩
  go_wp2_with fail
  refine (Tryz.strings_Contains_one val 32 _).mono ?_
  rw [← Lib.contains_iff_indexByte]
  obtain ⟨r4, hr4⟩ : ∃ r, val.data.toList.contains 32 = r := ⟨_, rfl⟩
  have R4 := Lib.hid hr4
  rw [hr4]
  clear hr4
  rintro e w2 ⟨rfl, rfl⟩
  go_wp2_with fail
  go_ret
  exact ⟨by rw [← HR.out, R1.out, R2.out]; simp only [valueB, blankB, R3.out, R4.out]; rfl, hbw⟩
end Go.Proofs.YtfimopcklknekaaGreatDoor
