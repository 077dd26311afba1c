/- Stamped sectors: zeros, Stamped, Unstamped, DrawStamped, and the laws' b10At, b10Long. -/
import Derived.Test.YtajchbafolgcoaaWord
import Derived.Test.YtajchbafolgcoaaRepeat
namespace Go.Proofs.Ytajchbafolgcoaa
open Go.RowKit
set_option linter.unusedVariables false

/-- A text of so many bytes comes back. -/
def SizePost (n : Nat) (w : World) (e : Ending) (w' : World) : Prop := ∃ s : ByteArray, s.size = n ∧ e = .returned (.string s) ∧ Below w.heap.size w w'

theorem zeros_any (n : Nat) (w : World) (hn : n ≤ 2000) :
    Calls Try.prog 72 #[.int .i64 n] w (SizePost n w) := by
  have hm : (0 : Int) ≤ (n : Int) := by omega
  go_enter Try.func72, Try.ntmps72
  go_wp2_with fail
  refine (Try.strings_Repeat _ n w (by omega) (by simp [ByteArray.size]; omega)).mono ?_
  rintro e w1 ⟨rfl, hb1⟩
  go_wp2_with fail
  go_ret
  exact ⟨_, by simp [ByteArray.size, Lib.repeatL_length], rfl, hb1⟩

/-- A stamped sector of 100 bytes comes back. -/
def StampPost (st : ByteArray) (w : World) (e : Ending) (w' : World) : Prop :=
  ∃ r : ByteArray, r.size = 100 ∧ (∃ m, r.data.toList = st.data.toList ++ m ++ st.data.toList) ∧ e = .returned (.string r) ∧ Below w.heap.size w w'

set_option maxHeartbeats 1000000 in
theorem stamped_core (st by_ : ByteArray) (w : World) (h1 : 1 ≤ st.size) (h2 : st.size ≤ 16) (h3 : by_.size ≤ 29) :
    Calls Try.prog 28 #[.string st, .string by_, .int .i64 100] w (StampPost st w) := by
  have hmx : max (0 : Int) 100 = 100 := by decide
  obtain ⟨q, hq⟩ : ∃ q : Nat, q + 2 * st.size + by_.size = 100 := ⟨100 - (2 * st.size + by_.size), by omega⟩
  have hq' : 100 - (2 * (st.size : Int) + by_.size) = (q : Int) := by omega
  have HQ := Lib.hid hq
  clear hq
  go_enter Try.func28, Try.ntmps28
  go_wp2_with fail
  refine (within_any _ _ _ true (inR_t (by omega) (by omega)) _).mono ?_
  rintro e w1 ⟨rfl, rfl⟩
  go_wp2_with fail
  refine (zeros_any q w (by have := HQ.out; omega)).mono ?_
  rintro e w1 ⟨z, hz, rfl, hb1⟩
  have HZ := Lib.hid hz
  have hz2 : z.size ≤ 100 := by have := HQ.out; omega
  clear hz
  go_wp2_with fail
  go_ret
  refine ⟨_, ?_, ⟨by_.data.toList ++ z.data.toList, ?_⟩, rfl, hb1⟩
  · simp only [ByteArray.size_append, HZ.out]; have := HQ.out; omega
  · simp [ByteArray.data_append]

/-- The stamp of a sector. -/
def UnPost (s : ByteArray) (L : Nat) (w : World) (e : Ending) (w' : World) : Prop :=
  (((s.extract 0 L).toList == (s.extract (100 - L) 100).toList) = true → ∃ t, e = .returned (.tuple #[.string (s.extract 0 L), .string t, .bool true])) ∧
  (((s.extract 0 L).toList == (s.extract (100 - L) 100).toList) = false → e = .returned (.tuple #[.string ⟨#[]⟩, .string ⟨#[]⟩, .bool false])) ∧ Below w.heap.size w w'

set_option maxHeartbeats 2000000 in
theorem unstamped_core (s : ByteArray) (L : Nat) (hs : s.size = 100) (h1 : 1 ≤ L) (h2 : L ≤ 16) (w : World) :
    Calls Try.prog 30 #[.string s, .int .i64 L] w (UnPost s L w) := by
  have i1 : IntKind.i64.wrap (2 * (L : Int)) = 2 * (L : Int) := IntWalk.i64_in _ (by omega)
  have i2 : IntKind.i64.wrap (100 - (L : Int)) = ((100 - L : Nat) : Int) := by rw [show ((100 - L : Nat) : Int) = 100 - (L : Int) from by omega]; exact IntWalk.i64_in _ (by omega)
  have i3 : (0 : Int) ≤ (L : Int) := by omega
  have i4 : (L : Int) ≤ 100 := by omega
  have i5 : (L : Int) ≤ ((100 - L : Nat) : Int) := by omega
  by_cases hc : ((s.extract 0 L).toList == (s.extract (100 - L) 100).toList) = true
  · have HC := Lib.hid hc
    go_enter Try.func30, Try.ntmps30
    go_wp2_with fail
    go_quiet ((go_at_call 71; exact quiet_left (within_any _ _ _ true (inR_t (by omega) (by omega)) _)))
    go_wp2_with fail
    go_quiet (fail)
    go_wp2_with fail
    go_ret3
    exact ⟨fun _ => ⟨_, rfl⟩, (fun h => by rw [HC.out] at h; cases h), below_drewN (below_drewN (Below.refl _ _) _) _⟩
  · have hc' : ((s.extract 0 L).toList == (s.extract (100 - L) 100).toList) = false := by simpa using hc
    have HC := Lib.hid hc'
    clear hc
    go_enter Try.func30, Try.ntmps30
    go_wp2_with fail
    go_quiet ((go_at_call 71; exact quiet_left (within_any _ _ _ true (inR_t (by omega) (by omega)) _)))
    go_wp2_with fail
    go_ret3
    exact ⟨(fun h => by rw [HC.out] at h; cases h), fun _ => rfl, below_drewN (Below.refl _ _) _⟩

/-- A choice below n comes back. -/
def AtPost10 (n : Int) (w : World) (e : Ending) (w' : World) : Prop := ∃ r : Int, 0 ≤ r ∧ r < n ∧ e = .returned (.int .i64 r) ∧ w = w'

set_option maxHeartbeats 1000000 in
theorem b10At_any (i : Nat) (n : Int) (a : Option Addr) (len cap : Nat) (w : World) (hi : i ≤ 1000000) (hn0 : 1 ≤ n) (hn : n ≤ 1000000000) (hl : len ≤ 1048577) (hb : BytesAt w w.heap.size a len) :
    Calls Try.prog 29 #[.slice a len cap, .int .i64 i, .int .i64 n] w (AtPost10 n w) := by
  by_cases h1 : n ≤ 1
  · go_enter Try.func29, Try.ntmps29
    go_wp2_with fail
    go_ret
    exact ⟨0, by omega, by omega, rfl, rfl⟩
  · by_cases h2 : i < len
    · obtain ⟨b, off, rfl, hbl, hc⟩ := hb (by omega)
      obtain ⟨z1, hz1, c1⟩ := hc i h2
      clear hc
      go_enter Try.func29, Try.ntmps29
      go_wp2_with fail
      go_ret
      exact ⟨_, Int.emod_nonneg _ (by omega), Int.emod_lt_of_pos _ (by omega), rfl, rfl⟩
    · go_enter Try.func29, Try.ntmps29
      go_wp2_with fail
      go_ret
      exact ⟨_, Int.emod_nonneg _ (by omega), Int.emod_lt_of_pos _ (by omega), rfl, rfl⟩

theorem b10Long_no (a a2 : Option Addr) (len len2 cap cap2 : Nat) (w : World) (h1 : len ≤ 1048576) (h2 : len2 ≤ 1048576) :
    Calls Try.prog 26 #[.slice a len cap, .slice a2 len2 cap2] w fun e w' => e = .returned (.bool false) ∧ w = w' := by
  have k1 : decide ((1048576 : Int) < (len : Int)) = false := by simp; omega
  have k2 : decide ((1048576 : Int) < (len2 : Int)) = false := by simp; omega
  go_enter Try.func26, Try.ntmps26
  go_wp2_with fail
  go_ret
  exact ⟨rfl, rfl⟩
theorem b10Long_yes (a a2 : Option Addr) (len len2 cap cap2 : Nat) (w : World) (h : 1048576 < len ∨ 1048576 < len2) :
    Calls Try.prog 26 #[.slice a len cap, .slice a2 len2 cap2] w fun e w' => e = .returned (.bool true) ∧ w = w' := by
  by_cases h1 : 1048576 < len
  · clear h
    go_enter Try.func26, Try.ntmps26
    go_wp2_with fail
    go_ret
    exact ⟨rfl, rfl⟩
  · have h2 : 1048576 < len2 := by omega
    have k1 : decide ((1048576 : Int) < (len : Int)) = false := by simp; omega
    have k2 : decide ((1048576 : Int) < (len2 : Int)) = true := by simp; omega
    clear h
    go_enter Try.func26, Try.ntmps26
    go_wp2_with fail
    go_ret
    exact ⟨rfl, rfl⟩

/-- A stamp and bytes are drawn. -/
def DrawPost (w : World) (e : Ending) (w' : World) : Prop :=
  ∃ (s t : ByteArray) (n : Int), s.size ≤ 17 ∧ t.size ≤ 29 ∧ e = .returned (.tuple #[.string s, .string t, .int .i64 n]) ∧ Below w.heap.size w w'

set_option maxHeartbeats 1000000 in
theorem drawStamped_any (a : Option Addr) (len cap : Nat) (w : World) (hl : len ≤ 1048577) (hb : BytesAt w w.heap.size a len) :
    Calls Try.prog 27 #[.slice a len cap] w (DrawPost w) := by
  go_enter Try.func27, Try.ntmps27
  go_wp2_with fail
  refine (l00From_any a len cap w hl hb).mono ?_
  rintro e w1 ⟨rfl, hs1, hb1⟩
  go_wp2_with fail
  refine (word_any 18 _ w1 _ hs1 (by omega) (by omega) (by omega)).mono ?_
  rintro e w2 ⟨s, hs, rfl, hs2, hg2⟩
  have hsz : s.size ≤ 17 := by omega
  go_wp2_with fail
  refine (word_any 30 _ w2 _ hs2 (by omega) (by omega) (by omega)).mono ?_
  rintro e w3 ⟨t, ht, rfl, hs3, hg3⟩
  have htz : t.size ≤ 29 := by omega
  clear hs ht
  go_wp2_with fail
  refine (among_any (fun v => (fun _ => true) v = true) w3.heap.size 7 _ _ _ _ _ w.heap.size (hs3.alloc _) (by omega) (by omega) (by omega) (Blk.new _ _ _) (by have := hs3.lt; omega) ?hcs).mono ?_
  case hcs => exact ints_of (fun _ => true) (by simp) (by rfl)
  rintro e w4 ⟨r2, _, rfl, hs4, hg4⟩
  go_wp2_with fail
  go_ret3
  have hz := hb1.size
  have hz2 := hg2.size
  have hz3 := hg3.size
  exact ⟨s, t, r2, hsz, htz, rfl, below_only ((below_only (below_only hb1 hg2 (Nat.le_refl _) (by omega)) hg3 (Nat.le_refl _) (by omega)).alloc (by omega) _) hg4 (Nat.le_refl _) (by simp; omega)⟩
end Go.Proofs.Ytajchbafolgcoaa
