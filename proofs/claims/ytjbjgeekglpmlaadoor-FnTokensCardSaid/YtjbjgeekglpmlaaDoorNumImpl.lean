/- The program's numbers: digitsOf, scaled, NumOf. -/
import Derived.Test.YtjbjgeekglpmlaaDoorMem
import Derived.Test.YtjbjgeekglpmlaaDoorNumLaw
import Derived.Test.YtjbjgeekglpmlaaDoorStrB
import Derived.Test.YtjbjgeekglpmlaaDoorNumS
import Derived.Shelf.Strings.SlTrimAscii
import Derived.Lib.SmallJoins
import Derived.Lib.ConvBytes
namespace Go.Proofs.YtjbjgeekglpmlaaDoor
open Go.RowKit Go.Shelf
set_option linter.unusedVariables false

theorem isDig_contains (c : UInt8) : ([48, 49, 50, 51, 52, 53, 54, 55, 56, 57] : List UInt8).contains c = isDig c := by
  have h : ∀ n : Fin 256, ([48, 49, 50, 51, 52, 53, 54, 55, 56, 57] : List UInt8).contains (UInt8.ofNat n.val) = isDig (UInt8.ofNat n.val) := by decide +kernel
  have := h ⟨c.toNat, UInt8.toNat_lt _⟩
  simpa using this
theorem isSign_contains (c : UInt8) : ([43, 45] : List UInt8).contains c = isSign c := by
  have h : ∀ n : Fin 256, ([43, 45] : List UInt8).contains (UInt8.ofNat n.val) = isSign (UInt8.ofNat n.val) := by decide +kernel
  have := h ⟨c.toNat, UInt8.toNat_lt _⟩
  simpa using this
theorem trimDig (l : List UInt8) : Lib.trimLeftS l [48, 49, 50, 51, 52, 53, 54, 55, 56, 57] = l.dropWhile isDig := by
  unfold Lib.trimLeftS
  congr 1
  funext c
  exact isDig_contains c
theorem trimSign (l : List UInt8) : Lib.trimLeftS l [43, 45] = l.dropWhile isSign := by
  unfold Lib.trimLeftS
  congr 1
  funext c
  exact isSign_contains c
theorem tw_dw_len (p : UInt8 → Bool) (l : List UInt8) : (l.takeWhile p).length + (l.dropWhile p).length = l.length := by
  have := congrArg List.length (List.takeWhile_append_dropWhile (p := p) (l := l))
  rw [List.length_append] at this
  exact this
theorem trimL_dig (s : ByteArray) (w : World) : Calls Tryd.prog 71 #[.string s, .string ⟨#[48, 49, 50, 51, 52, 53, 54, 55, 56, 57]⟩] w (StrPost (s.data.toList.dropWhile isDig) w) := by
  have h := Any.strings_TrimLeft_laid Tryd.lays161 (by kernel_rfl) s ⟨#[48, 49, 50, 51, 52, 53, 54, 55, 56, 57]⟩ w (by decide) (ascii_of_all (by decide))
  rw [trimDig] at h
  exact h.mono fun e w' ⟨h1, h2⟩ => .of h1 h2
theorem trimL_sign (s : ByteArray) (w : World) : Calls Tryd.prog 71 #[.string s, .string ⟨#[43, 45]⟩] w (StrPost (s.data.toList.dropWhile isSign) w) := by
  have h := Any.strings_TrimLeft_laid Tryd.lays161 (by kernel_rfl) s ⟨#[43, 45]⟩ w (by decide) (ascii_of_all (by decide))
  rw [trimSign] at h
  exact h.mono fun e w' ⟨h1, h2⟩ => .of h1 h2

/-- A number of bytes comes back. -/
def NatPost (n : Nat) (w : World) (e : Ending) (w' : World) : Prop := ∃ k : Nat, k = n ∧ e = .returned (.int .i64 (k : Int)) ∧ Below w.heap.size w w'

theorem digitsOf_any (s : ByteArray) (w : World) (hs : s.size ≤ 9223372036854775807) :
    Calls Tryd.prog 56 #[.string s] w (NatPost (s.data.toList.takeWhile isDig).length w) := by
  have H1 := Lib.hid (tw_dw_len isDig s.data.toList)
  have H2 := Lib.hid (size_len s)
  go_enter Tryd.func56, Tryd.ntmps56
  go_wp2_with fail
  refine (trimL_dig s w).mono ?_
  rintro e w1 ⟨r, hr, rfl, hb⟩
  have H3 := Lib.hid (size_len r)
  have H4 := Lib.hid hr
  clear hr
  have hle : r.size ≤ s.size := by have := H1.out; have := H2.out; have := H3.out; rw [H4.out] at this; omega
  go_wp2_with fail
  go_ret
  exact ⟨s.size - r.size, by have := H1.out; have := H2.out; have := H3.out; rw [H4.out] at this; omega, ret_int (by omega), hb⟩

end Go.Proofs.YtjbjgeekglpmlaaDoor
