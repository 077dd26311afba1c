/- The program's numbers: digitsOf, scaled, NumOf. -/
import Derived.Test.YtbknfkdjhajimaaGreatDoorMem
import Derived.Test.YtbknfkdjhajimaaGreatDoorNumLaw
import Derived.Test.YtbknfkdjhajimaaGreatDoorStrB
import Derived.Test.YtbknfkdjhajimaaGreatDoorNumS
import Derived.Shelf.Strings.SlTrimAscii
import Derived.Lib.SmallJoins
import Derived.Lib.ConvBytes
namespace Go.Proofs.YtbknfkdjhajimaaGreatDoor
open Go.RowKit Go.Shelf
set_option linter.unusedVariables false

theorem isDig_contains (c : UInt8) : ([48, 49, 50, 51, 52, 53, 54, 55, 56, 57] : List UInt8).contains c = isDig c := by
  have h : ∀ n : Fin 256, ([48, 49, 50, 51, 52, 53, 54, 55, 56, 57] : List UInt8).contains (UInt8.ofNat n.val) = isDig (UInt8.ofNat n.val) := by decide +kernel
  have := h ⟨c.toNat, UInt8.toNat_lt _⟩
  simpa using this
theorem isSign_contains (c : UInt8) : ([43, 45] : List UInt8).contains c = isSign c := by
  have h : ∀ n : Fin 256, ([43, 45] : List UInt8).contains (UInt8.ofNat n.val) = isSign (UInt8.ofNat n.val) := by decide +kernel
  have := h ⟨c.toNat, UInt8.toNat_lt _⟩
  simpa using this
theorem trimDig (l : List UInt8) : Lib.trimLeftS l [48, 49, 50, 51, 52, 53, 54, 55, 56, 57] = l.dropWhile isDig := by
  unfold Lib.trimLeftS
  congr 1
  funext c
  exact isDig_contains c
theorem trimSign (l : List UInt8) : Lib.trimLeftS l [43, 45] = l.dropWhile isSign := by
  unfold Lib.trimLeftS
  congr 1
  funext c
  exact isSign_contains c
theorem tw_dw_len (p : UInt8 → Bool) (l : List UInt8) : (l.takeWhile p).length + (l.dropWhile p).length = l.length := by
  have := congrArg List.length (List.takeWhile_append_dropWhile (p := p) (l := l))
  rw [List.length_append] at this
  exact this
theorem trimL_dig (s : ByteArray) (w : World) : Calls Tryz.prog 155 #[.string s, .string ⟨#[48, 49, 50, 51, 52, 53, 54, 55, 56, 57]⟩] w (StrPost (s.data.toList.dropWhile isDig) w) := by
  have h := Any.strings_TrimLeft_laid Tryz.lays161 (by kernel_rfl) s ⟨#[48, 49, 50, 51, 52, 53, 54, 55, 56, 57]⟩ w (by decide) (ascii_of_all (by decide))
  rw [trimDig] at h
  exact h.mono fun e w' ⟨h1, h2⟩ => .of h1 h2
theorem trimL_sign (s : ByteArray) (w : World) : Calls Tryz.prog 155 #[.string s, .string ⟨#[43, 45]⟩] w (StrPost (s.data.toList.dropWhile isSign) w) := by
  have h := Any.strings_TrimLeft_laid Tryz.lays161 (by kernel_rfl) s ⟨#[43, 45]⟩ w (by decide) (ascii_of_all (by decide))
  rw [trimSign] at h
  exact h.mono fun e w' ⟨h1, h2⟩ => .of h1 h2

/-- A number of bytes comes back. -/
def NatPost (n : Nat) (w : World) (e : Ending) (w' : World) : Prop := ∃ k : Nat, k = n ∧ e = .returned (.int .i64 (k : Int)) ∧ Below w.heap.size w w'

theorem digitsOf_any (s : ByteArray) (w : World) (hs : s.size ≤ 9223372036854775807) :
    Calls Tryz.prog 157 #[.string s] w (NatPost (s.data.toList.takeWhile isDig).length w) := by
  have H1 := Lib.hid (tw_dw_len isDig s.data.toList)
  have H2 := Lib.hid (size_len s)
  go_enter Tryz.func157, Tryz.ntmps157
  go_wp2_with fail
  refine (trimL_dig s w).mono ?_
  rintro e w1 ⟨r, hr, rfl, hb⟩
  have H3 := Lib.hid (size_len r)
  have H4 := Lib.hid hr
  clear hr
  have hle : r.size ≤ s.size := by have := H1.out; have := H2.out; have := H3.out; rw [H4.out] at this; omega
  go_wp2_with fail
  go_ret
  exact ⟨s.size - r.size, by have := H1.out; have := H2.out; have := H3.out; rw [H4.out] at this; omega, ret_int (by omega), hb⟩

/-- []byte(s): a new row of s's bytes. -/
theorem bytes_of_str (s : ByteArray) (w : World) : ∃ (wb : World) (cap : Nat), (∀ src dst e, Tryz.prog.underlying src = some .string → Tryz.prog.underlying dst = some (.slice e) → e = 5 → (convert src dst (.string s)).run Tryz.prog w = .ok (.slice (some ⟨w.heap.size, 0, none⟩) s.size cap) wb)
    ∧ (∀ j, j < s.size → wb.cell? ⟨w.heap.size, j, none⟩ = some (.int .u8 (s.data.toList.getD j 0).toNat)) ∧ Below w.heap.size w wb :=
  ⟨Lib.bytesWorld w 5 s, grownCap w s.size 0 5, fun src dst e hs hd he => by subst he; exact Lib.run_convert_string_bytes w src dst _ s hs hd Tryz.underlying5,
    Lib.bytesWorld_cell w 5 s, ⟨rfl, rfl, rfl, by rw [Lib.bytesWorld_size]; omega, fun i hi => Lib.bytesWorld_at_old w 5 s i hi⟩⟩

set_option maxHeartbeats 1000000 in
theorem scaled_any (s : ByteArray) (n : Nat) (w : World) (hn : n ≤ 999999999999999999) (hs : s.size ≤ 9223372036854775806) (hd : ∀ c ∈ s.data.toList, isDig c = true) :
    Calls Tryz.prog 159 #[.int .i64 n, .string s] w (NatPost (scR n s.data.toList) w) := by
  obtain ⟨wb, cap, hcv0, hcell, hb⟩ := bytes_of_str s w
  have hcv := hcv0 9 22 5 Tryz.underlying9 Tryz.underlying22 rfl
  have HC := Lib.hid hcell
  have HD := Lib.hid hd
  have HL := Lib.hid (size_len s)
  clear hcv0 hcell hd
  go_enter Tryz.func159, Tryz.ntmps159
  go_wp2_with fail
  go_loop [0, 6, 10] (fun a _ i => ∃ k m : Nat, k ≤ s.size ∧ m ≤ 999999999999999999 ∧ i = .int .i64 k ∧ a = .int .i64 m ∧ Hid (scR m (s.data.toList.drop k) = scR n s.data.toList)) (fun _ _ i => s.size - (intOf i).toNat)
  case atStart => exact ⟨0, n, Nat.zero_le _, hn, rfl, rfl, Lib.hid (by rw [List.drop_zero])⟩
  case round =>
    obtain ⟨k, m, hk, hm, rfl, rfl, hsc⟩ := hrel
    by_cases hlt : k < s.size
    · have hkl : k < s.data.toList.length := by have := HL.out; omega
      have hmem : s.data.toList.getD k 0 ∈ s.data.toList := by
        rw [List.getD_eq_getElem?_getD, List.getElem?_eq_getElem hkl]; exact List.getElem_mem hkl
      have hdg := HD.out _ hmem
      have hc := HC.out k hlt
      have hst := Lib.hid (drop_at s.data.toList k hkl)
      generalize s.data.toList.getD k 0 = c at *
      clear hmem
      have hsc2 := Lib.hid (show scR m (c :: s.data.toList.drop (k + 1)) = scR n s.data.toList by rw [← hst.out]; exact hsc.out)
      clear hst hsc
      have hv : 48 ≤ c.toNat ∧ c.toNat ≤ 57 := by unfold isDig at hdg; simp at hdg; exact hdg
      have hdv := Lib.hid (show dval c = c.toNat - 48 from rfl)
      clear hdg
      obtain ⟨h48, h57⟩ := hv
      generalize c.toNat = x at *
      by_cases hgt : (999999999999999999 - dval c) / 10 < m
      · have g1 : (999999999999999999 - ((x : Int) - 48)) / 10 < (m : Int) := by have := hdv.out; omega
        have HR := Lib.hid (show 999999999999999999 = scR n s.data.toList by rw [← hsc2.out]; unfold scR; rw [if_pos hgt])
        clear hgt
        go_wp2_with fail
        go_ret
        exact ⟨_, HR.out, rfl, hb⟩
      · have g1 : ¬ (999999999999999999 - ((x : Int) - 48)) / 10 < (m : Int) := by have := hdv.out; omega
        have HR := Lib.hid (show scR (10 * m + dval c) (s.data.toList.drop (k + 1)) = scR n s.data.toList by rw [← hsc2.out]; conv => rhs; unfold scR; rw [if_neg hgt])
        have g2 : 10 * m + (x - 48) ≤ 999999999999999999 := by have := hdv.out; omega
        clear hgt
        go_wp2_with fail
        go_round
        case rel => exact ⟨k + 1, 10 * m + (x - 48), by omega, g2, by go_num, by go_num, Lib.hid (by rw [← HR.out, hdv.out])⟩
        case measure => simp [intOf]; omega
    · have HR := Lib.hid (show m = scR n s.data.toList by rw [← hsc.out, List.drop_eq_nil_of_le (by have := HL.out; omega)]; rfl)
      go_wp2_with fail
      go_ret
      exact ⟨_, HR.out, rfl, hb⟩
end Go.Proofs.YtbknfkdjhajimaaGreatDoor
