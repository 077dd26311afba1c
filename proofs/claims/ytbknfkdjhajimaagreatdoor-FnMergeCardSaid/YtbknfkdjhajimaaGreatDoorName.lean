/- Names: letters, digits, a percent sign: what both versions say. -/
import Derived.Test.YtbknfkdjhajimaaGreatDoorMem
import Derived.Test.YtbknfkdjhajimaaGreatDoorEqs
import Derived.Test.YtbknfkdjhajimaaGreatDoorStrs
import Derived.Test.YtbknfkdjhajimaaGreatDoorRow
namespace Go.Proofs.YtbknfkdjhajimaaGreatDoor
open Go.RowKit
set_option linter.unusedVariables false

def letterB (n : Nat) : Bool := (decide (97 ≤ n) && decide (n ≤ 122)) || (decide (65 ≤ n) && decide (n ≤ 90))
def digitB (n : Nat) : Bool := decide (48 ≤ n) && decide (n ≤ 57)
/-- What may stand at a place of a name. -/
def nameAt (s : ByteArray) (i : Nat) : Bool := letterB (s.get! i).toNat || (if i = 0 then decide ((s.get! i).toNat = 37) else digitB (s.get! i).toNat)
def nameB (s : ByteArray) : Bool := (decide (1 ≤ s.size) && decide (s.size ≤ 8)) && (List.range s.size).all (nameAt s)

theorem get_at (s : ByteArray) (i : Nat) (h : i < s.size) : s.get! i = s[i] := by
  show s.data.get!Internal i = _
  simp [Array.get!Internal, h]
  rfl
theorem name_no {s : ByteArray} {k : Nat} (h : k < s.size) (hn : nameAt s k = false) : nameB s = false := by
  unfold nameB
  rw [show (List.range s.size).all (nameAt s) = false from List.all_eq_false.2 ⟨k, List.mem_range.2 h, by simp [hn]⟩, Bool.and_false]
theorem range_all_succ (p : Nat → Bool) (k : Nat) : (List.range (k + 1)).all p = ((List.range k).all p && p k) := by
  rw [List.range_succ, List.all_append]
  simp

theorem isLetter_any (n : Nat) (r : Bool) (hr : letterB n = r) (w : World) : Calls Tryz.prog 95 #[.int .u8 (n : Int)] w fun e w' => e = .returned (.bool r) ∧ w = w' := by
  subst hr
  by_cases a : 97 ≤ n
  · have q1 : decide ((97 : Int) ≤ (n : Int)) = true := decide_eq_true (by omega)
    by_cases b : n ≤ 122
    · have q2 : decide ((n : Int) ≤ 122) = true := decide_eq_true (by omega)
      have F := Lib.hid (show letterB n = true by simp [letterB, a, b])
      clear a b
      go_enter Tryz.func95, Tryz.ntmps95
      go_wp2_with fail
      go_ret
      exact ⟨by rw [F.out]; rfl, rfl⟩
    · have q2 : decide ((n : Int) ≤ 122) = false := decide_eq_false (by omega)
      have q3 : decide ((65 : Int) ≤ (n : Int)) = true := decide_eq_true (by omega)
      have q4 : decide ((n : Int) ≤ 90) = false := decide_eq_false (by omega)
      have F := Lib.hid (show letterB n = false by unfold letterB; rw [decide_eq_false b, decide_eq_false (show ¬ n ≤ 90 by omega)]; simp)
      clear a b
      go_enter Tryz.func95, Tryz.ntmps95
      go_wp2_with fail
      go_ret
      exact ⟨by rw [F.out]; rfl, rfl⟩
  · have q1 : decide ((97 : Int) ≤ (n : Int)) = false := decide_eq_false (by omega)
    by_cases c : 65 ≤ n
    · have q3 : decide ((65 : Int) ≤ (n : Int)) = true := decide_eq_true (by omega)
      by_cases d : n ≤ 90
      · have q4 : decide ((n : Int) ≤ 90) = true := decide_eq_true (by omega)
        have F := Lib.hid (show letterB n = true by simp [letterB, c, d])
        clear a c d
        go_enter Tryz.func95, Tryz.ntmps95
        go_wp2_with fail
        go_ret
        exact ⟨by rw [F.out]; rfl, rfl⟩
      · have q4 : decide ((n : Int) ≤ 90) = false := decide_eq_false (by omega)
        have F := Lib.hid (show letterB n = false by simp [letterB, a, d])
        clear a c d
        go_enter Tryz.func95, Tryz.ntmps95
        go_wp2_with fail
        go_ret
        exact ⟨by rw [F.out]; rfl, rfl⟩
    · have q3 : decide ((65 : Int) ≤ (n : Int)) = false := decide_eq_false (by omega)
      have F := Lib.hid (show letterB n = false by simp [letterB, a, c])
      clear a c
      go_enter Tryz.func95, Tryz.ntmps95
      go_wp2_with fail
      go_ret
      exact ⟨by rw [F.out]; rfl, rfl⟩

theorem isDigit_any (n : Nat) (r : Bool) (hr : digitB n = r) (w : World) : Calls Tryz.prog 96 #[.int .u8 (n : Int)] w fun e w' => e = .returned (.bool r) ∧ w = w' := by
  subst hr
  by_cases a : 48 ≤ n
  · have q1 : decide ((48 : Int) ≤ (n : Int)) = true := decide_eq_true (by omega)
    by_cases b : n ≤ 57
    · have q2 : decide ((n : Int) ≤ 57) = true := decide_eq_true (by omega)
      have F := Lib.hid (show digitB n = true by simp [digitB, a, b])
      clear a b
      go_enter Tryz.func96, Tryz.ntmps96
      go_wp2_with fail
      go_ret
      exact ⟨by rw [F.out]; rfl, rfl⟩
    · have q2 : decide ((n : Int) ≤ 57) = false := decide_eq_false (by omega)
      have F := Lib.hid (show digitB n = false by simp [digitB, b])
      clear a b
      go_enter Tryz.func96, Tryz.ntmps96
      go_wp2_with fail
      go_ret
      exact ⟨by rw [F.out]; rfl, rfl⟩
  · have q1 : decide ((48 : Int) ≤ (n : Int)) = false := decide_eq_false (by omega)
    have F := Lib.hid (show digitB n = false by simp [digitB, a])
    clear a
    go_enter Tryz.func96, Tryz.ntmps96
    go_wp2_with fail
    go_ret
    exact ⟨by rw [F.out]; rfl, rfl⟩

theorem l02Letter_any (n : Nat) (r : Bool) (hr : letterB n = r) (w : World) : Calls Tryz.prog 125 #[.int .u8 (n : Int)] w fun e w' => e = .returned (.bool r) ∧ w = w' := by
  subst hr
  by_cases a : 97 ≤ n
  · have q1 : decide ((97 : Int) ≤ (n : Int)) = true := decide_eq_true (by omega)
    by_cases b : n ≤ 122
    · have q2 : decide ((n : Int) ≤ 122) = true := decide_eq_true (by omega)
      have F := Lib.hid (show letterB n = true by simp [letterB, a, b])
      clear a b
      go_enter Tryz.func125, Tryz.ntmps125
      go_wp2_with fail
      go_ret
      exact ⟨by rw [F.out]; rfl, rfl⟩
    · have q2 : decide ((n : Int) ≤ 122) = false := decide_eq_false (by omega)
      have q3 : decide ((65 : Int) ≤ (n : Int)) = true := decide_eq_true (by omega)
      have q4 : decide ((n : Int) ≤ 90) = false := decide_eq_false (by omega)
      have F := Lib.hid (show letterB n = false by unfold letterB; rw [decide_eq_false b, decide_eq_false (show ¬ n ≤ 90 by omega)]; simp)
      clear a b
      go_enter Tryz.func125, Tryz.ntmps125
      go_wp2_with fail
      go_ret
      exact ⟨by rw [F.out]; rfl, rfl⟩
  · have q1 : decide ((97 : Int) ≤ (n : Int)) = false := decide_eq_false (by omega)
    by_cases c : 65 ≤ n
    · have q3 : decide ((65 : Int) ≤ (n : Int)) = true := decide_eq_true (by omega)
      by_cases d : n ≤ 90
      · have q4 : decide ((n : Int) ≤ 90) = true := decide_eq_true (by omega)
        have F := Lib.hid (show letterB n = true by simp [letterB, c, d])
        clear a c d
        go_enter Tryz.func125, Tryz.ntmps125
        go_wp2_with fail
        go_ret
        exact ⟨by rw [F.out]; rfl, rfl⟩
      · have q4 : decide ((n : Int) ≤ 90) = false := decide_eq_false (by omega)
        have F := Lib.hid (show letterB n = false by simp [letterB, a, d])
        clear a c d
        go_enter Tryz.func125, Tryz.ntmps125
        go_wp2_with fail
        go_ret
        exact ⟨by rw [F.out]; rfl, rfl⟩
    · have q3 : decide ((65 : Int) ≤ (n : Int)) = false := decide_eq_false (by omega)
      have F := Lib.hid (show letterB n = false by simp [letterB, a, c])
      clear a c
      go_enter Tryz.func125, Tryz.ntmps125
      go_wp2_with fail
      go_ret
      exact ⟨by rw [F.out]; rfl, rfl⟩

theorem l01Digit_any (n : Nat) (r : Bool) (hr : digitB n = r) (w : World) : Calls Tryz.prog 126 #[.int .u8 (n : Int)] w fun e w' => e = .returned (.bool r) ∧ w = w' := by
  subst hr
  by_cases a : 48 ≤ n
  · have q1 : decide ((48 : Int) ≤ (n : Int)) = true := decide_eq_true (by omega)
    by_cases b : n ≤ 57
    · have q2 : decide ((n : Int) ≤ 57) = true := decide_eq_true (by omega)
      have F := Lib.hid (show digitB n = true by simp [digitB, a, b])
      clear a b
      go_enter Tryz.func126, Tryz.ntmps126
      go_wp2_with fail
      go_ret
      exact ⟨by rw [F.out]; rfl, rfl⟩
    · have q2 : decide ((n : Int) ≤ 57) = false := decide_eq_false (by omega)
      have F := Lib.hid (show digitB n = false by simp [digitB, b])
      clear a b
      go_enter Tryz.func126, Tryz.ntmps126
      go_wp2_with fail
      go_ret
      exact ⟨by rw [F.out]; rfl, rfl⟩
  · have q1 : decide ((48 : Int) ≤ (n : Int)) = false := decide_eq_false (by omega)
    have F := Lib.hid (show digitB n = false by simp [digitB, a])
    clear a
    go_enter Tryz.func126, Tryz.ntmps126
    go_wp2_with fail
    go_ret
    exact ⟨by rw [F.out]; rfl, rfl⟩

set_option maxHeartbeats 2000000 in
theorem nameOk_any (s : ByteArray) (r : Bool) (hr : nameB s = r) (w : World) (hs : s.size ≤ 9223372036854775807) :
    Calls Tryz.prog 63 #[.string s] w fun e w' => e = .returned (.bool r) ∧ w = w' := by
  subst hr
  go_enter Tryz.func63, Tryz.ntmps63
  go_wp2_with fail
  go_loop [2, 3] (fun _ i => ∃ k : Nat, k ≤ s.size ∧ i = .int .i64 k ∧ Hid ((List.range k).all (nameAt s) = true)) (fun _ i => s.size - (intOf i).toNat)
  case atStart => exact ⟨0, by omega, rfl, Lib.hid (by simp)⟩
  case round =>
    obtain ⟨k, hk, rfl, hall⟩ := hrel
    by_cases hlt : k < s.size
    · have hno := Lib.hid (name_no (s := s) hlt)
      have hstep := Lib.hid (range_all_succ (nameAt s) k)
      have hb : s[k].toNat < 256 := UInt8.toNat_lt _
      have hat := Lib.hid (show nameAt s k = (letterB s[k].toNat || (if k = 0 then decide (s[k].toNat = 37) else digitB s[k].toNat)) by unfold nameAt; rw [get_at s k hlt])
      go_wp2_with fail
      cases hL : letterB s[k].toNat
      · have HL := Lib.hid hL
        refine (isLetter_any s[k].toNat false hL _).mono ?_
        rintro e w1 ⟨rfl, rfl⟩
        clear hL
        by_cases h0 : k = 0
        · subst h0
          by_cases h37 : s[0].toNat = 37
          · have q1 : ((s[0].toNat : Int) == 37) = true := beq_iff_eq.2 (by omega)
            have HA := Lib.hid (show nameAt s 0 = true by rw [hat.out, HL.out]; simp [h37])
            clear h37
            go_wp2_with fail
            go_round
            case rel => exact ⟨0 + 1, by omega, by go_num, Lib.hid (by rw [hstep.out, hall.out, HA.out]; rfl)⟩
            case measure => simp [intOf]; omega
          · have q1 : ((s[0].toNat : Int) == 37) = false := beq_eq_false_iff_ne.2 (by omega)
            have HA := Lib.hid (hno.out (by rw [hat.out, HL.out]; simp [h37]))
            clear h37
            go_wp2_with fail
            go_ret
            exact ⟨by rw [HA.out]; rfl, rfl⟩
        · have q0 : ((k : Int) == 0) = false := beq_eq_false_iff_ne.2 (by omega)
          cases hD : digitB s[k].toNat
          · have HA := Lib.hid (hno.out (by rw [hat.out, HL.out, if_neg h0, hD]; rfl))
            go_wp2_with fail
            refine (isDigit_any s[k].toNat false hD _).mono ?_
            rintro e w1 ⟨rfl, rfl⟩
            go_wp2_with fail
            go_ret
            exact ⟨by rw [HA.out]; rfl, rfl⟩
          · have HA := Lib.hid (show nameAt s k = true by rw [hat.out, HL.out, if_neg h0, hD]; rfl)
            go_wp2_with fail
            refine (isDigit_any s[k].toNat true hD _).mono ?_
            rintro e w1 ⟨rfl, rfl⟩
            go_wp2_with fail
            go_round
            case rel => exact ⟨k + 1, by omega, by go_num, Lib.hid (by rw [hstep.out, hall.out, HA.out]; rfl)⟩
            case measure => simp [intOf]; omega
      · have HA := Lib.hid (show nameAt s k = true by rw [hat.out, hL]; rfl)
        refine (isLetter_any s[k].toNat true hL _).mono ?_
        rintro e w1 ⟨rfl, rfl⟩
        go_wp2_with fail
        go_round
        case rel => exact ⟨k + 1, by omega, by go_num, Lib.hid (by rw [hstep.out, hall.out, HA.out]; rfl)⟩
        case measure => simp [intOf]; omega
    · have HN := Lib.hid (show nameB s = (decide (1 ≤ s.size) && decide (s.size ≤ 8)) by
        have := hall.out
        rw [show k = s.size by omega] at this
        unfold nameB
        rw [this, Bool.and_true])
      by_cases h1 : 1 ≤ s.size
      · have q1 : decide ((1 : Int) ≤ (s.size : Int)) = true := decide_eq_true (by omega)
        by_cases h8 : s.size ≤ 8
        · have q2 : decide ((s.size : Int) ≤ 8) = true := decide_eq_true (by omega)
          go_wp2_with fail
          go_ret
          exact ⟨by rw [HN.out, decide_eq_true h1, decide_eq_true h8]; rfl, rfl⟩
        · have q2 : decide ((s.size : Int) ≤ 8) = false := decide_eq_false (by omega)
          go_wp2_with fail
          go_ret
          exact ⟨by rw [HN.out, decide_eq_true h1, decide_eq_false h8]; rfl, rfl⟩
      · have q1 : decide ((1 : Int) ≤ (s.size : Int)) = false := decide_eq_false (by omega)
        go_wp2_with fail
        go_ret
        exact ⟨by rw [HN.out, decide_eq_false h1]; rfl, rfl⟩

set_option maxHeartbeats 2000000 in
theorem l02Name_any (s : ByteArray) (r : Bool) (hr : nameB s = r) (w : World) (hs : s.size ≤ 9223372036854775807) :
    Calls Tryz.prog 106 #[.string s] w fun e w' => e = .returned (.bool r) ∧ w = w' := by
  subst hr
  by_cases h1 : s.size < 1
  · have q1 : decide ((s.size : Int) < 1) = true := decide_eq_true (by omega)
    have HN := Lib.hid (show nameB s = false by unfold nameB; rw [decide_eq_false (show ¬ 1 ≤ s.size by omega)]; rfl)
    go_enter Tryz.func106, Tryz.ntmps106
    go_wp2_with fail
    go_ret
    exact ⟨by rw [HN.out]; rfl, rfl⟩
  have q1 : decide ((s.size : Int) < 1) = false := decide_eq_false (by omega)
  by_cases h8 : 8 < s.size
  · have q2 : decide ((8 : Int) < (s.size : Int)) = true := decide_eq_true (by omega)
    have HN := Lib.hid (show nameB s = false by unfold nameB; rw [decide_eq_false (show ¬ s.size ≤ 8 by omega), Bool.and_false]; rfl)
    go_enter Tryz.func106, Tryz.ntmps106
    go_wp2_with fail
    go_ret
    exact ⟨by rw [HN.out]; rfl, rfl⟩
  have q2 : decide ((8 : Int) < (s.size : Int)) = false := decide_eq_false (by omega)
  have hlt0 : 0 < s.size := by omega
  have HZ := Lib.hid (show nameB s = (List.range s.size).all (nameAt s) by unfold nameB; rw [decide_eq_true (show 1 ≤ s.size by omega), decide_eq_true (show s.size ≤ 8 by omega)]; rfl)
  have hno0 := Lib.hid (name_no (s := s) hlt0)
  have hat0 := Lib.hid (show nameAt s 0 = (letterB s[0].toNat || decide (s[0].toNat = 37)) by unfold nameAt; rw [get_at s 0 hlt0]; rfl)
  have hb0 : s[0].toNat < 256 := UInt8.toNat_lt _
  by_cases hA0 : nameAt s 0 = false
  · have HN := Lib.hid (hno0.out hA0)
    rw [hat0.out] at hA0
    have hL : letterB s[0].toNat = false := (Bool.or_eq_false_iff.1 hA0).1
    have h37 : ¬ s[0].toNat = 37 := by simpa using (Bool.or_eq_false_iff.1 hA0).2
    have q3 : ((s[0].toNat : Int) != 37) = true := bne_iff_ne.2 (by omega)
    clear hA0 h37
    go_enter Tryz.func106, Tryz.ntmps106
    go_wp2_with fail
    refine (l02Letter_any s[0].toNat false hL _).mono ?_
    rintro e w1 ⟨rfl, rfl⟩
    go_wp2_with fail
    go_ret
    exact ⟨by rw [HN.out]; rfl, rfl⟩
  have HA0 := Lib.hid (show nameAt s 0 = true by simpa using hA0)
  clear hA0
  obtain ⟨L, hL⟩ : ∃ L, letterB s[0].toNat = L := ⟨_, rfl⟩
  have HL := Lib.hid hL
  clear hL
  have q3 : L = false → ((s[0].toNat : Int) != 37) = false := by
    intro h
    have := HA0.out
    rw [hat0.out, HL.out, h] at this
    simp at this
    simp
    omega
  go_enter Tryz.func106, Tryz.ntmps106
  go_wp2_with fail
  refine (l02Letter_any s[0].toNat L HL.out _).mono ?_
  rintro e w1 ⟨rfl, rfl⟩
  have main : ∀ (tail : Prop), tail → tail := fun _ h => h
  cases L
  all_goals
    first | (have q4 := q3 rfl; clear q3; go_wp2_with fail) | (clear q3; go_wp2_with fail)
    go_loop [3] (fun i => ∃ k : Nat, 1 ≤ k ∧ k ≤ s.size ∧ i = .int .i64 k ∧ Hid ((List.range k).all (nameAt s) = true)) (fun i => s.size - (intOf i).toNat)
    case atStart => exact ⟨1, by omega, by omega, rfl, Lib.hid (by rw [range_all_succ (nameAt s) 0, HA0.out]; rfl)⟩
    case round =>
      obtain ⟨k, hk1, hk, rfl, hall⟩ := hrel
      by_cases hlt : k < s.size
      · have hno := Lib.hid (name_no (s := s) hlt)
        have hstep := Lib.hid (range_all_succ (nameAt s) k)
        have hb : s[k].toNat < 256 := UInt8.toNat_lt _
        have hat := Lib.hid (show nameAt s k = (letterB s[k].toNat || digitB s[k].toNat) by unfold nameAt; rw [get_at s k hlt, if_neg (by omega)])
        go_wp2_with fail
        cases hL : letterB s[k].toNat
        · have HL' := Lib.hid hL
          refine (l02Letter_any s[k].toNat false hL _).mono ?_
          rintro e w1 ⟨rfl, rfl⟩
          clear hL
          cases hD : digitB s[k].toNat
          · have HA := Lib.hid (hno.out (by rw [hat.out, HL'.out, hD]; rfl))
            go_wp2_with fail
            refine (l01Digit_any s[k].toNat false hD _).mono ?_
            rintro e w1 ⟨rfl, rfl⟩
            go_wp2_with fail
            go_ret
            exact ⟨by rw [HA.out]; rfl, rfl⟩
          · have HA := Lib.hid (show nameAt s k = true by rw [hat.out, HL'.out, hD]; rfl)
            go_wp2_with fail
            refine (l01Digit_any s[k].toNat true hD _).mono ?_
            rintro e w1 ⟨rfl, rfl⟩
            go_wp2_with fail
            go_round
            case rel => exact ⟨k + 1, by omega, by omega, by go_num, Lib.hid (by rw [hstep.out, hall.out, HA.out]; rfl)⟩
            case measure => simp [intOf]; omega
        · have HA := Lib.hid (show nameAt s k = true by rw [hat.out, hL]; rfl)
          refine (l02Letter_any s[k].toNat true hL _).mono ?_
          rintro e w1 ⟨rfl, rfl⟩
          go_wp2_with fail
          go_round
          case rel => exact ⟨k + 1, by omega, by omega, by go_num, Lib.hid (by rw [hstep.out, hall.out, HA.out]; rfl)⟩
          case measure => simp [intOf]; omega
      · have HN := Lib.hid (show nameB s = true by
          have := hall.out
          rw [show k = s.size by omega] at this
          rw [HZ.out, this])
        go_wp2_with fail
        go_ret
        exact ⟨by rw [HN.out]; rfl, rfl⟩

theorem nameOk_spec (s : ByteArray) (r : Bool) (hr : nameB s = r) (w : World) (hs : s.size ≤ 9223372036854775807) :
    Calls Tryz.prog 71 #[.string s] w fun e w' => e = .returned (.bool r) ∧ w = w' := by
  go_enter Tryz.func71, Tryz.ntmps71
  go_wp2_with fail
  refine (l02Name_any s r hr w hs).mono ?_
  rintro e w1 ⟨rfl, rfl⟩
  go_wp2_with fail
  go_ret
  exact ⟨rfl, rfl⟩
end Go.Proofs.YtbknfkdjhajimaaGreatDoor
