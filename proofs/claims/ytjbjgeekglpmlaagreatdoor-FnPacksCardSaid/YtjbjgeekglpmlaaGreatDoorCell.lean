/- Cells of tables: the program's cellOk and the reference's l29Cell answer alike. -/
import Derived.Test.YtjbjgeekglpmlaaGreatDoorStrs
import Derived.Test.YtjbjgeekglpmlaaGreatDoorContains
namespace Go.Proofs.YtjbjgeekglpmlaaGreatDoor
open Go.RowKit
set_option linter.unusedVariables false

/-- A rune that no cell may hold. -/
def badRune (c : Nat) : Bool := decide (c < 32) || (decide (126 < c) || decide (c = 94))
/-- A cell is short and of plain bytes. -/
def cellB (s : ByteArray) : Bool := decide (s.size ≤ 11) && !(s.data.toList.any fun b => badRune b.toNat)

theorem decode_ascii (s : ByteArray) (i : Nat) (h : (s.get! i).toNat < 128) : Utf8.decode s i = ((s.get! i).toNat, 1) := by
  unfold Utf8.decode
  simp only [Nat.add_zero]
  rw [if_pos h]
theorem decode_high (s : ByteArray) (i : Nat) (h : ¬ (s.get! i).toNat < 128) : 128 ≤ (Utf8.decode s i).1 := by
  unfold Utf8.decode
  simp only [Nat.add_zero]
  rw [if_neg h]
  repeat' split
  all_goals first | (simp only [Utf8.runeError]; omega) | (simp only [ge_iff_le, Bool.and_eq_true, decide_eq_true_eq] at *; omega)

theorem get_bang (s : ByteArray) (i : Nat) (h : i < s.size) : s.get! i = s.data.toList[i]'(by rw [Array.length_toList]; exact h) := by
  show s.data[i]! = _
  rw [getElem!_pos s.data i h]
  simp

theorem any_drop_succ {α : Type} (l : List α) (p : α → Bool) (i : Nat) (h : i < l.length) : (l.drop i).any p = (p l[i] || (l.drop (i + 1)).any p) := by
  rw [List.drop_eq_getElem_cons h, List.any_cons]

/-- A search for a rune that every byte beyond ASCII leads to goes byte by byte. -/
theorem idx_bytes (p : Nat → Bool) (hp : ∀ c, 128 ≤ c → p c = true) (s : ByteArray) : ∀ f pos, s.size - pos ≤ f → decide (0 ≤ Lib.idxFuncFrom p true s f pos) = (s.data.toList.drop pos).any fun b => p b.toNat := by
  intro f
  induction f with
  | zero =>
    intro pos h
    rw [List.drop_eq_nil_of_le (by rw [Array.length_toList]; show s.size ≤ pos; omega)]
    simp [Lib.idxFuncFrom]
  | succ f ih =>
    intro pos h
    unfold Lib.idxFuncFrom
    by_cases hlt : pos < s.size
    · rw [if_pos hlt]
      have hl : pos < s.data.toList.length := by rw [Array.length_toList]; exact hlt
      rw [any_drop_succ _ _ pos hl, ← get_bang s pos hlt]
      by_cases ha : (s.get! pos).toNat < 128
      · rw [decode_ascii s pos ha]
        by_cases hq : p (s.get! pos).toNat = true
        · rw [if_pos hq, hq]; simp
        · rw [if_neg hq, ih (pos + 1) (by omega)]
          simp only [Bool.not_eq_true] at hq
          rw [hq]; simp
      · have hq := hp _ (decode_high s pos ha)
        rw [if_pos hq, hp (s.get! pos).toNat (by omega)]
        simp
    · rw [if_neg hlt, List.drop_eq_nil_of_le (by rw [Array.length_toList]; show s.size ≤ pos; omega)]
      simp

theorem bad_high (c : Nat) (h : 128 ≤ c) : badRune c = true := by
  unfold badRune
  have : decide (126 < c) = true := by simp; omega
  simp [this]

theorem cellOk1_pred (w : World) : PredAt Tryz.prog 215 #[] encR badRune w := by
  intro W r _
  unfold FnGives
  by_cases h1 : r < 32
  · have hb : badRune r = true := by simp [badRune, h1]
    have HB := Lib.hid hb
    clear hb
    have q1 : (r : Int) < 32 := by omega
    go_enter Tryz.func215, Tryz.ntmps215
    go_wp2
    go_ret
    exact ⟨by rw [HB.out]; rfl, 0, rfl⟩
  · by_cases h2 : 126 < r
    · have HB := Lib.hid (show badRune r = true by simp [badRune, h2])
      have q1 : decide ((r : Int) < 32) = false := by simp; omega
      have q2 : 126 < (r : Int) := by omega
      go_enter Tryz.func215, Tryz.ntmps215
      go_wp2
      go_ret
      exact ⟨by rw [HB.out]; rfl, 0, rfl⟩
    · by_cases h3 : r = 94
      · subst h3
        have HB := Lib.hid (show badRune 94 = true by decide)
        go_enter Tryz.func215, Tryz.ntmps215
        go_wp2
        go_ret
        exact ⟨by rw [HB.out]; rfl, 0, rfl⟩
      · have HB := Lib.hid (show badRune r = false by simp [badRune, h1, h2, h3])
        have q1 : decide ((r : Int) < 32) = false := by simp; omega
        have q2 : decide (126 < (r : Int)) = false := by simp; omega
        have q3 : ((r : Int) == 94) = false := by simp; omega
        go_enter Tryz.func215, Tryz.ntmps215
        go_wp2
        go_ret
        exact ⟨by rw [HB.out]; rfl, 0, rfl⟩

set_option maxHeartbeats 1000000 in
theorem cellOk_any (s : ByteArray) (w : World) (hs : s.size ≤ 9223372036854775807) :
    Calls Tryz.prog 169 #[.string s] w fun e w' => e = .returned (.bool (cellB s)) ∧ Below w.heap.size w w' := by
  by_cases h1 : s.size ≤ 11
  · obtain ⟨r, hr⟩ : ∃ r, (s.data.toList.any fun b => badRune b.toNat) = r := ⟨_, rfl⟩
    have hc : cellB s = !r := by simp [cellB, h1, hr]
    have hi : decide (0 ≤ Lib.idxFunc badRune true s) = r := by
      have := idx_bytes badRune bad_high s s.size 0 (by omega)
      rw [List.drop_zero, hr] at this
      exact this
    have HC := Lib.hid hc
    have HI := Lib.hid hi
    clear hc hi hr
    go_enter Tryz.func169, Tryz.ntmps169
    go_wp2_with fail
    refine (Tryz.strings_ContainsFunc 215 #[] (enters_of Tryz.func215 (by kernel_rfl) rfl) badRune s w (cellOk1_pred w)).mono ?_
    rw [HI.out]
    rintro e w1 ⟨rfl, hb⟩
    go_wp2_with fail
    go_ret
    exact ⟨by rw [HC.out]; rfl, hb⟩
  · have HC := Lib.hid (show cellB s = false by simp [cellB, h1])
    have q1 : decide ((s.size : Int) ≤ 11) = false := by simp; omega
    go_enter Tryz.func169, Tryz.ntmps169
    go_wp2_with fail
    go_ret
    exact ⟨by rw [HC.out]; rfl, Below.refl _ _⟩

theorem any_take_succ {α : Type} (l : List α) (p : α → Bool) (i : Nat) (h : i < l.length) : (l.take (i + 1)).any p = ((l.take i).any p || p l[i]) := by
  rw [List.take_succ_eq_append_getElem h, List.any_append]
  simp
theorem any_of_at {α : Type} (l : List α) (p : α → Bool) (i : Nat) (h : i < l.length) (hp : p l[i] = true) : l.any p = true := by
  rw [List.any_eq_true]
  exact ⟨_, List.getElem_mem h, hp⟩

set_option maxHeartbeats 1000000 in
theorem l29Cell_any (s : ByteArray) (w : World) (hs : s.size ≤ 9223372036854775807) :
    Calls Tryz.prog 107 #[.string s] w fun e w' => e = .returned (.bool (cellB s)) ∧ w = w' := by
  go_enter Tryz.func107, Tryz.ntmps107
  go_wp2_with fail
  go_loop [3] (fun i => ∃ k : Nat, k ≤ s.size ∧ i = .int .i64 k ∧ Hid (((s.data.toList.take k).any fun b => badRune b.toNat) = false)) (fun i => s.size - (intOf i).toNat)
  case atStart => exact ⟨0, by omega, rfl, Lib.hid (by simp)⟩
  case round =>
    obtain ⟨k, hk, rfl, hno⟩ := hrel
    by_cases hlt : k < s.size
    · have hl : k < s.data.toList.length := by rw [Array.length_toList]; exact hlt
      have hstep := Lib.hid (any_take_succ s.data.toList (fun b => badRune b.toNat) k hl)
      have hfound := Lib.hid (any_of_at s.data.toList (fun b => badRune b.toNat) k hl)
      have hget := Lib.hid (show s.data.toList[k] = s[k] from rfl)
      have hb : s[k].toNat < 256 := UInt8.toNat_lt _
      by_cases hbad : badRune s[k].toNat = true
      · have HC := Lib.hid (show cellB s = false by
          have := hfound.out (by simp only [hget.out]; exact hbad)
          simp [cellB, this])
        have hcase : s[k].toNat < 32 ∨ 126 < s[k].toNat ∨ s[k].toNat = 94 := by simpa [badRune] using hbad
        clear hbad
        by_cases h1 : s[k].toNat < 32
        · have q1 : ((s[k].toNat : Int) < 32) := by omega
          go_wp2_with fail
          go_ret
          exact ⟨by rw [HC.out]; rfl, rfl⟩
        · have q1 : decide ((s[k].toNat : Int) < 32) = false := by simp; omega
          by_cases h2 : 126 < s[k].toNat
          · have q2 : 126 < (s[k].toNat : Int) := by omega
            go_wp2_with fail
            go_ret
            exact ⟨by rw [HC.out]; rfl, rfl⟩
          · have q2 : decide (126 < (s[k].toNat : Int)) = false := by simp; omega
            have q3 : ((s[k].toNat : Int) == 94) = true := by simp; omega
            go_wp2_with fail
            go_ret
            exact ⟨by rw [HC.out]; rfl, rfl⟩
      · have hcase : ¬ s[k].toNat < 32 ∧ ¬ 126 < s[k].toNat ∧ ¬ s[k].toNat = 94 := by simpa [badRune] using hbad
        have HB := Lib.hid (show badRune s[k].toNat = false by simpa using hbad)
        have q1 : decide ((s[k].toNat : Int) < 32) = false := by simp; omega
        have q2 : decide (126 < (s[k].toNat : Int)) = false := by simp; omega
        have q3 : ((s[k].toNat : Int) == 94) = false := by simp; omega
        clear hcase hbad
        go_wp2_with fail
        go_round
        case rel => exact ⟨k + 1, by omega, by go_num, Lib.hid (by rw [hstep.out, hno.out, hget.out, HB.out]; rfl)⟩
        case measure => simp [intOf]; omega
    · have HC := Lib.hid (show cellB s = decide (s.size ≤ 11) by
        have := hno.out
        rw [List.take_of_length_le (by rw [Array.length_toList]; show s.size ≤ k; omega)] at this
        simp [cellB, this])
      by_cases h1 : s.size ≤ 11
      · have q1 : decide ((s.size : Int) ≤ 11) = true := by simp; omega
        go_wp2_with fail
        go_ret
        exact ⟨by rw [HC.out, decide_eq_true h1]; rfl, rfl⟩
      · have q1 : decide ((s.size : Int) ≤ 11) = false := by simp; omega
        go_wp2_with fail
        go_ret
        exact ⟨by rw [HC.out, decide_eq_false h1]; rfl, rfl⟩
end Go.Proofs.YtjbjgeekglpmlaaGreatDoor
