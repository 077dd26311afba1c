/- The source's 'word': a text of fewer than n bytes. -/
import Derived.Test.YtfimopcklknekaaDoorDrawn
namespace Go.Proofs.YtfimopcklknekaaDoor
open Go.RowKit
set_option linter.unusedVariables false

/-- string(b) of bytes: some text of their number. -/
theorem string_of_bytes {P : Program} {w : World} {B : Nat} {a : Option Addr} {n cap : Nat} (h : BytesAt w B a n) (src e : TypeId) (hs : P.underlying src = some (.slice e)) (he : P.underlying e = some (.int .u8)) :
    ∃ s : ByteArray, s.size = n ∧ ∀ dst, P.underlying dst = some .string → (convert src dst (.slice a n cap)).run P w = .ok (.string s) w := by
  rcases Nat.eq_zero_or_pos n with h0 | h0
  · subst h0
    refine ⟨ByteArray.empty, rfl, ?_⟩
    intro dst hd
    rcases a with _ | ⟨b, off, spot⟩
    · exact run_convert_bytes_nil w src e hs he 0 cap dst hd
    · rw [run_convert_bytes_string w src dst e _ 0 cap hs he hd]
      simp [Conv.bytesToString, loadCells]
      rfl
  · obtain ⟨b, off, rfl, hb, hc⟩ := h h0
    have hex : ∃ xs : List Int, xs.length = n ∧ ∀ i, i < n → w.cell? ⟨b, off + i, none⟩ = some (.int .u8 (xs.getD i 0)) := by
      refine ⟨(List.range n).map fun i => match w.cell? ⟨b, off + i, none⟩ with | some (.int _ z) => z | _ => 0, by simp, fun i hi => ?_⟩
      obtain ⟨z, hz, hcz⟩ := hc i hi
      rw [List.getD_eq_getElem?_getD, List.getElem?_map, List.getElem?_range hi]
      simp [hcz]
    obtain ⟨xs, hl, hcell⟩ := hex
    exact ⟨strOfNums xs, by rw [strOfNums_size, hl], run_convert_bytes_arg w src e hs he b off n cap xs hl hcell⟩

theorem only_beyond {a w w' : World} {g : Nat} {row : Option Nat} (h : a.grownBy w (some g)) (k : w.grownBy w' row) (hr : ∀ i, row = some i → i = g ∨ a.heap.size ≤ i) : a.grownBy w' (some g) :=
  ⟨k.os.trans h.os, k.tape.trans h.tape, k.output.trans h.output, Nat.le_trans h.size k.size, fun i hi hne => (k.block i (Nat.lt_of_lt_of_le hi h.size) (fun e => by
    rcases hr i e.symm with rfl | hh
    · exact hne rfl
    · omega)).trans (h.block i hi hne)⟩

theorem Src.grown {n : Nat} {w w' : World} {g : Nat} {row : Option Nat} (h : Src n w g) (k : w.grownBy w' row) (hr : ∀ i, row = some i → g < i) : Src n w' g :=
  h.keep fun b hb => k.block b (by have := h.lt; omega) (fun e => by have := hr b e.symm; omega)

set_option maxHeartbeats 2000000 in
theorem word_any (k : Int) (n : Nat) (w : World) (g : Nat) (h : Src n w g) (hn : n ≤ 999999990000) (hk0 : 0 ≤ k) (hk : k ≤ 1000) :
    Calls Tryd.prog 69 #[.pointer (some ⟨g, 0, none⟩), .int .i64 k] w (SrcStr (fun s => (s.size : Int) < k ∨ s.size = 0) (n + 1002) w g) := by
  obtain ⟨i0, hi0, hz0, hz1, hz2⟩ := info_parts byte_info
  have hgl := h.lt
  go_enter Tryd.func69, Tryd.ntmps69
  go_wp2_with fail
  refine (pick_any k n _ g (h.alloc _) (by omega) hk0 (by omega)).mono ?_
  rintro e w1 ⟨r, ⟨hr0, hr1⟩, rfl, hs1, hg1⟩
  obtain ⟨m, rfl⟩ := Int.eq_ofNat_of_zero_le hr0
  have hm : (m : Int) < k ∨ m = 0 := by omega
  have HM := Lib.hid hm
  have hm2 : m ≤ 1000 := by omega
  clear hr1 hm
  have hgw1 : w.grownBy w1 (some g) := only_trans (only_alloc (World.grownBy.refl _ _) _) hg1
  have hown1 : w1.ownsRow w.heap.size 5 1 (.slice (some ⟨w.heap.size, 0, none⟩) 0 0) 0 [] :=
    (World.ownsRow_lit w #[] 0 (Nat.le_refl _) (by simp [maxLen]) rfl : (w.alloc (.cells #[] 5)).ownsRow w.heap.size 5 1 _ 0 []).kept hg1 (.inr (by simp [Value.ownBlock]; omega))
  go_wp2_with fail
  go_loopw [5, 6] (fun v i wr => ∃ (l j : Nat) (xs : List Value), l + j ≤ m ∧ i = .int .i64 l ∧ wr.ownsRow w.heap.size 5 1 v j xs ∧ (∀ u ∈ xs, IsByte u) ∧ Src (n + 2 + j) wr g ∧ w.grownBy wr (some g)) (fun _ i _ => (intOf i).toNat)
  case atStart => exact ⟨m, 0, [], by omega, rfl, hown1, by simp, hs1, hgw1⟩
  case round =>
    obtain ⟨l, j, xs, hj, rfl, hown, hx, hsr, hgr⟩ := hrel
    have HX := Lib.hid hx
    clear hx
    by_cases hpos : 0 < l
    · go_wp2_with fail
      refine (next_any _ wr g hsr (by omega)).mono ?_
      rintro e w3 ⟨r3, ⟨hp0, hp1⟩, rfl, hs3, hg3⟩
      have hown3 := hown.kept hg3 (.inr (by intro e; have := (hown.lt g e).1; omega))
      have hlt3 := hown.lt
      have hgr3 := only_trans hgr hg3
      go_wp2_with (at_builtin; refine wpList_append_own _ rfl (.tmp 15) (.tmp 19) _ rfl w.heap.size 5 i0 _ 1 1 Tryd.underlying22 hi0 hz0 hz1 hz2 rfl (by omega) _ j xs rfl (hown3.alloc _) ⟨w3.heap.size, 0, none⟩ 1 1 [.int .u8 r3] rfl rfl ?c1 ?c2 ?c3 ?c4 ?c5 ?_)
      case c1 => exact cell_one_new _ _ _
      case c2 => intro u hu; simp at hu; subst hu; rfl
      case c3 => simp only [maxLen]; omega
      case c4 => omega
      case c5 => have := hgr3.size; simp; omega
      intro v' w4 hown4 hg4 _
      go_wp2_with fail
      have hs4 : Src (n + 2 + j + 1) w4 g := (hs3.alloc _).grown hg4 (by intro i hi; have := (hlt3 i hi).1; omega)
      have hgr4 : w.grownBy w4 (some g) := only_beyond (only_alloc hgr3 _) hg4 (by intro i hi; exact .inr (hlt3 i hi).1)
      have hx4 : ∀ u ∈ xs ++ [Value.int .u8 r3], IsByte u := by
        intro u hu
        rw [List.mem_append] at hu
        rcases hu with hu | hu
        · exact HX.out u hu
        · simp at hu
          obtain ⟨z, rfl⟩ := Int.eq_ofNat_of_zero_le hp0
          exact ⟨z, by omega, hu⟩
      go_roundw
      case rel => exact ⟨l - 1, j + 1, _, by omega, by go_num, hown4, hx4, hs4, hgr4⟩
      case measure => simp [intOf]; omega
    · obtain ⟨a', c', rfl, hby⟩ := bytes_of_own hown HX.out
      obtain ⟨s, hsz, hconv⟩ := string_of_bytes (P := Tryd.prog) (cap := c') hby 22 5 Tryd.underlying22 Tryd.underlying5
      have hcv := hconv 9 Tryd.underlying9
      have HS := Lib.hid hsz
      clear hconv hsz
      go_wp2_with fail
      go_ret
      refine ⟨s, ?_, rfl, hsr.more (by omega), hgr⟩
      have := HS.out; have := HM.out
      omega
end Go.Proofs.YtfimopcklknekaaDoor
