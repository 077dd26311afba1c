/- The drawn texts: l01Word, l02Text, A8Word, A8Text. -/
import Derived.Test.YtfimopcklknekaaDoorNumTextR
import Derived.Test.YtfimopcklknekaaDoorWord
namespace Go.Proofs.YtfimopcklknekaaDoor
open Go.RowKit Go.Shelf
set_option linter.unusedVariables false

def short (s : ByteArray) : Bool := decide (s.size ≤ 100)

theorem l01Abs_any (n : Int) (w : World) (hn : IsNum n) : Calls Tryd.prog 107 #[.int .i64 n] w fun e w' => (∃ k, IsNum k ∧ e = .returned (.int .i64 k)) ∧ w = w' := by
  obtain ⟨h1, h2⟩ := hn
  by_cases h : n < 0
  · go_enter Tryd.func107, Tryd.ntmps107
    go_wp2
    go_ret
    exact ⟨⟨-n, ⟨by omega, by omega⟩, rfl⟩, rfl⟩
  · go_enter Tryd.func107, Tryd.ntmps107
    go_wp2
    go_ret
    exact ⟨⟨n, ⟨by omega, by omega⟩, rfl⟩, rfl⟩

theorem StrPost.len {l : List UInt8} {r : ByteArray} (h : r.data.toList = l) {k : Nat} (hk : l.length ≤ k) : r.size ≤ k := by rw [size_len, h]; exact hk

set_option maxHeartbeats 2000000 in
theorem l01Word_any (n : Nat) (w : World) (g : Nat) (h : Src n w g) (hn : n ≤ 999999900000) :
    Calls Tryd.prog 57 #[.pointer (some ⟨g, 0, none⟩)] w (SrcStr (fun s => s.size ≤ 1000) (n + 2000) w g) := by
  go_enter Tryd.func57, Tryd.ntmps57
  go_wp2_with fail
  refine (pick_any 6 n w g h (by omega) (by omega) (by omega)).mono ?_
  rintro e w1 ⟨r, ⟨hr0, hr1⟩, rfl, hs1, hg1⟩
  by_cases h0 : r = 0
  · subst h0
    go_wp2_with fail
    refine (text_any (fun s => short s = true) w1.heap.size 29 _ _ _ _ _ g (hs1.alloc _) (by omega) (by omega) (by omega) (Blk.new _ _ _) (by have := hs1.lt; omega) ?hcs).mono ?_
    case hcs => exact strs_of short (by decide) (by decide)
    rintro e w2 ⟨s2, hs, rfl, hs2, hg2⟩
    go_wp2_with fail
    go_ret
    exact ⟨_, Nat.le_trans (of_decide_eq_true hs) (by omega), rfl, hs2.more (by omega), only_trans hg1 (only_trans (only_alloc (World.grownBy.refl _ _) _) hg2)⟩
  by_cases h1 : r = 1
  · subst h1
    go_wp2_with fail
    refine (word_any 9 (n + 2) w1 g hs1 (by omega) (by omega) (by omega)).mono ?_
    rintro e w2 ⟨s2, hs, rfl, hs2, hg2⟩
    have hs' : s2.size ≤ 1000 := by omega
    clear hs
    go_wp2_with fail
    go_ret
    exact ⟨_, hs', rfl, hs2.more (by omega), only_trans hg1 hg2⟩
  by_cases h2 : r = 2
  · subst h2
    go_wp2_with fail
    refine (text_any (fun s => short s = true) w1.heap.size 4 _ _ _ _ _ g (hs1.alloc _) (by omega) (by omega) (by omega) (Blk.new _ _ _) (by have := hs1.lt; omega) ?hcs).mono ?_
    case hcs => exact strs_of short (by decide) (by decide)
    rintro e w2 ⟨s2, hz2, rfl, hs2, hg2⟩
    have hz2 : s2.size ≤ 100 := of_decide_eq_true hz2
    have hw2 := only_trans hg1 (only_trans (only_alloc (World.grownBy.refl _ _) _) hg2)
    go_wp2_with fail
    refine (l01Num_any (n + 2 + 2) w2 g hs2 (by omega)).mono ?_
    rintro e w3 ⟨m, _, rfl, hs3, hg3⟩
    have hw3 := only_trans hw2 hg3
    have hm := isNum_tmod m
    go_wp2_with fail
    generalize m.tmod 999999999999999999 = m2 at *
    refine (l01Abs_any m2 w3 hm).mono ?_
    rintro e w4 ⟨⟨k, hk, rfl⟩, rfl⟩
    go_wp2_with fail
    refine (l01Text_any k w3 hk).mono ?_
    rintro e w4 ⟨t, ht, rfl, hb4⟩
    have tl : t.size ≤ 20 := StrPost.len ht (textOf_len hk)
    have hs4 := hs3.below hb4 hs3.lt
    have hw4 := only_trans hw3 (only_of_below hb4 _)
    clear ht
    go_wp2_with fail
    refine (text_any (fun s => short s = true) w4.heap.size 5 _ _ _ _ _ g (hs4.alloc _) (by omega) (by omega) (by omega) (Blk.new _ _ _) (by have := hs4.lt; omega) ?hcs2).mono ?_
    case hcs2 => exact strs_of short (by decide) (by decide)
    rintro e w5 ⟨s5, hz5, rfl, hs5, hg5⟩
    have hz5 : s5.size ≤ 100 := of_decide_eq_true hz5
    have hw5 := only_trans hw4 (only_trans (only_alloc (World.grownBy.refl _ _) _) hg5)
    have hzs : (s2 ++ t).size ≤ 200 := by rw [ByteArray.size_append]; omega
    go_wp2_with fail
    go_ret
    exact ⟨_, by show (s2 ++ t ++ s5).size ≤ 1000; rw [ByteArray.size_append, ByteArray.size_append]; omega, rfl, hs5.more (by omega), hw5⟩
  have k0 : (r == 0) = false := by simp [h0]
  have k1 : (r == 1) = false := by simp [h1]
  have k2 : (r == 2) = false := by simp [h2]
  clear h0 h1 h2
  go_wp2_with fail
  refine (l01Num_any (n + 2) w1 g hs1 (by omega)).mono ?_
  rintro e w3 ⟨m, _, rfl, hs3, hg3⟩
  have hw3 := only_trans hg1 hg3
  have hm := isNum_tmod m
  go_wp2_with fail
  generalize m.tmod 999999999999999999 = m2 at *
  refine (l01Text_any m2 w3 hm).mono ?_
  rintro e w4 ⟨t, ht, rfl, hb4⟩
  have tl : t.size ≤ 20 := StrPost.len ht (textOf_len hm)
  have hs4 := hs3.below hb4 hs3.lt
  have hw4 := only_trans hw3 (only_of_below hb4 _)
  clear ht
  go_wp2_with fail
  go_ret
  exact ⟨_, by omega, rfl, hs4.more (by omega), hw4⟩

/-- A text of some length comes back; what was there stands. -/
def TextPost (w : World) (e : Ending) (w' : World) : Prop := ∃ s : ByteArray, s.size ≤ 1000 ∧ e = .returned (.string s) ∧ Below w.heap.size w w'

theorem A8Word_any (a : Option Addr) (len cap : Nat) (w : World) (hl : len ≤ 1048577) (hb : BytesAt w w.heap.size a len) :
    Calls Tryd.prog 25 #[.slice a len cap] w (TextPost w) := by
  go_enter Tryd.func25, Tryd.ntmps25
  go_wp2_with fail
  refine (l00From_any a len cap w hl hb).mono ?_
  rintro e w1 ⟨rfl, hs1, hb1⟩
  go_wp2_with fail
  refine (l01Word_any 0 w1 _ hs1 (by omega)).mono ?_
  rintro e w2 ⟨s, hs, rfl, hs2, hg2⟩
  go_wp2_with fail
  go_ret
  exact ⟨s, hs, rfl, below_only hb1 hg2 (Nat.le_refl _) (by have := hb1.size; omega)⟩

set_option maxHeartbeats 2000000 in
theorem l02Text_any (n : Nat) (w : World) (g : Nat) (h : Src n w g) (hn : n ≤ 999999800000) :
    Calls Tryd.prog 64 #[.pointer (some ⟨g, 0, none⟩)] w (SrcStr (fun s => s.size ≤ 1000) (n + 3000) w g) := by
  go_enter Tryd.func64, Tryd.ntmps64
  go_wp2_with fail
  refine (pick_any 5 n w g h (by omega) (by omega) (by omega)).mono ?_
  rintro e w1 ⟨r, ⟨hr0, hr1⟩, rfl, hs1, hg1⟩
  by_cases h0 : r = 0
  · subst h0
    go_wp2_with fail
    refine (text_any (fun s => short s = true) w1.heap.size 9 _ _ _ _ _ g (hs1.alloc _) (by omega) (by omega) (by omega) (Blk.new _ _ _) (by have := hs1.lt; omega) ?hcs).mono ?_
    case hcs => exact strs_of short (by decide) (by decide)
    rintro e w2 ⟨s2, hs, rfl, hs2, hg2⟩
    go_wp2_with fail
    go_ret
    exact ⟨_, Nat.le_trans (of_decide_eq_true hs) (by omega), rfl, hs2.more (by omega), only_trans hg1 (only_trans (only_alloc (World.grownBy.refl _ _) _) hg2)⟩
  by_cases h1 : r = 1
  · subst h1
    go_wp2_with fail
    refine (text_any (fun s => short s = true) w1.heap.size 13 _ _ _ _ _ g (hs1.alloc _) (by omega) (by omega) (by omega) (Blk.new _ _ _) (by have := hs1.lt; omega) ?hcs2).mono ?_
    case hcs2 => exact strs_of short (by decide) (by decide)
    rintro e w2 ⟨s2, hs, rfl, hs2, hg2⟩
    go_wp2_with fail
    go_ret
    exact ⟨_, Nat.le_trans (of_decide_eq_true hs) (by omega), rfl, hs2.more (by omega), only_trans hg1 (only_trans (only_alloc (World.grownBy.refl _ _) _) hg2)⟩
  by_cases h2 : r = 2
  · subst h2
    go_wp2_with fail
    refine (l01Word_any (n + 2) w1 g hs1 (by omega)).mono ?_
    rintro e w2 ⟨s2, hs, rfl, hs2, hg2⟩
    go_wp2_with fail
    go_ret
    exact ⟨_, hs, rfl, hs2.more (by omega), only_trans hg1 hg2⟩
  have k0 : (r == 0) = false := by simp [h0]
  have k1 : (r == 1) = false := by simp [h1]
  have k2 : (r == 2) = false := by simp [h2]
  clear h0 h1 h2
  go_wp2_with fail
  refine (word_any 6 (n + 2) w1 g hs1 (by omega) (by omega) (by omega)).mono ?_
  rintro e w2 ⟨s2, hs, rfl, hs2, hg2⟩
  have hs' : s2.size ≤ 1000 := by omega
  clear hs
  by_cases he : s2.data.toList = []
  · obtain rfl : s2 = ⟨#[]⟩ := ba_ext he
    clear he
    go_wp2_with fail
    go_ret
    exact ⟨⟨#[120]⟩, by decide, rfl, hs2.more (by omega), only_trans hg1 hg2⟩
  · have hz : s2.toList.isEmpty = false := by
      rw [isEmpty_toList]
      cases hh : s2.data.toList with
      | nil => exact absurd hh he
      | cons => rfl
    have hz1 : (s2.toList == []) = false := by rw [ByteArray.toList_eq]; exact beq_eq_false_iff_ne.2 he
    clear he
    go_wp2_with fail
    go_ret
    exact ⟨_, hs', rfl, hs2.more (by omega), only_trans hg1 hg2⟩

theorem l02Sub_any (s : ByteArray) (w : World) (hs : s.size ≤ 9223372036854775807) : Calls Tryd.prog 65 #[.string s] w fun e w' => (∃ b : Bool, e = .returned (.bool b)) ∧ w = w' := by
  by_cases h : 1 ≤ s.size
  · have q : (1 : Int) ≤ (s.size : Int) := by omega
    go_enter Tryd.func65, Tryd.ntmps65
    go_wp2
    go_ret
    exact ⟨⟨_, rfl⟩, rfl⟩
  · have q : decide ((1 : Int) ≤ (s.size : Int)) = false := decide_eq_false (by omega)
    go_enter Tryd.func65, Tryd.ntmps65
    go_wp2
    go_ret
    exact ⟨⟨_, rfl⟩, rfl⟩

theorem A8Text_any (a : Option Addr) (len cap : Nat) (w : World) (hl : len ≤ 1048577) (hb : BytesAt w w.heap.size a len) :
    Calls Tryd.prog 33 #[.slice a len cap] w (TextPost w) := by
  go_enter Tryd.func33, Tryd.ntmps33
  go_wp2_with fail
  refine (l00From_any a len cap w hl hb).mono ?_
  rintro e w1 ⟨rfl, hs1, hb1⟩
  go_wp2_with fail
  refine (l02Text_any 0 w1 _ hs1 (by omega)).mono ?_
  rintro e w2 ⟨s, hs, rfl, hs2, hg2⟩
  have hb2 := below_only hb1 hg2 (Nat.le_refl _) (by have := hb1.size; omega)
  go_wp2_with fail
  refine (l02Sub_any s w2 (by omega)).mono ?_
  rintro e w3 ⟨⟨b, rfl⟩, rfl⟩
  cases b
  · go_wp2_with fail
    go_ret
    exact ⟨⟨#[120]⟩, by decide, rfl, hb2⟩
  · go_wp2_with fail
    go_ret
    exact ⟨s, hs, rfl, hb2⟩
end Go.Proofs.YtfimopcklknekaaDoor
