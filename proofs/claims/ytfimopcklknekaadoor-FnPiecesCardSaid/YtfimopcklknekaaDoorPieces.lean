/- The program's pieces: pieces, LengthOf, PieceOf, FindOf, ExtractOf. -/
import Derived.Test.YtfimopcklknekaaDoorPiecesLaw
import Derived.Test.YtfimopcklknekaaDoorPieS
import Derived.Test.YtfimopcklknekaaDoorStrB
namespace Go.Proofs.YtfimopcklknekaaDoor
open Go.RowKit
set_option linter.unusedVariables false

/-- The library's number MaxLen is some number. -/
def MaxL (w : World) : Prop := ∃ m : Int, w.cell? ⟨0, 0, none⟩ = some (.int .i64 m)
theorem MaxL.below {w w' : World} (h : MaxL w) (hb : Below w.heap.size w w') : MaxL w' := by
  obtain ⟨m, hm⟩ := h
  refine ⟨m, ?_⟩
  have hlt : 0 < w.heap.size := by
    rcases Nat.lt_or_ge 0 w.heap.size with h | h
    · exact h
    · have : w.heap[0]? = none := Array.getElem?_eq_none h
      simp [World.cell?, this] at hm
  rw [hb.cell (p := ⟨0, 0, none⟩) hlt]; exact hm

/-- The pieces of a text. -/
def piecesOf (s d : ByteArray) : List ByteArray := Lib.splitB d 0 (Lib.countB s d) s
theorem pieces_data (s d : ByteArray) : (piecesOf s d).map (·.data.toList) = Lib.splitK d.data.toList 0 (Lib.count s.data.toList d.data.toList) s.data.toList := Lib.splitB_data d 0 _ s
structure PFacts (s d : ByteArray) : Prop where
  len : (piecesOf s d).length = Lib.countB s d + 1
  le : Lib.countB s d ≤ s.size
  join : Lib.join ((piecesOf s d).map (·.data.toList)) d.data.toList = s.data.toList
  free : ∀ p ∈ piecesOf s d, Lib.index p.data.toList d.data.toList = -1
  find : 0 ≤ Lib.index s.data.toList d.data.toList ↔ 1 ≤ Lib.countB s d
theorem pfacts (s d : ByteArray) (hd : 1 ≤ d.size) : PFacts s d := by
  have hne : d.data.toList ≠ [] := fun e => by rw [size_len, e] at hd; simp at hd
  obtain ⟨h1, h2, h3⟩ := split_law d.data.toList hne _ s.data.toList rfl
  have hdat := pieces_data s d
  refine ⟨?_, Lib.countB_le d hd s.size s (Nat.le_refl _), ?_, ?_, count_index _ _ hne⟩
  · have := congrArg List.length hdat
    rw [List.length_map] at this
    rw [this, h3]
  · rw [hdat]; exact h1
  · intro p hp
    apply h2
    rw [← hdat]
    exact List.mem_map.2 ⟨p, hp, rfl⟩

/-- The pieces lie in a new row. -/
def PiecesPost (xs : List ByteArray) (w : World) (e : Ending) (w' : World) : Prop :=
  ∃ (b n : Nat), n = xs.length ∧ e = .returned (.slice (some ⟨b, 0, none⟩) n n) ∧ (∀ (j : Nat) x, xs[j]? = some x → w'.cell? ⟨b, j, none⟩ = some (.string x)) ∧ b < w'.heap.size ∧ Below w.heap.size w w'
theorem pieces_any (s d : ByteArray) (w : World) (hs : s.size ≤ 1000) (hd : 1 ≤ d.size) (hm : MaxL w) : Calls Tryd.prog 38 #[.string s, .string d] w (PiecesPost (piecesOf s d) w) := by
  have HF := Lib.hid (pfacts s d hd)
  have hz : d.toList.isEmpty = false := by
    rw [isEmpty_toList]
    cases hh : d.data.toList with
    | nil => rw [size_len, hh] at hd; simp at hd
    | cons => rfl
  have hz1 : (d.toList == []) = false := by
    rw [ByteArray.toList_eq]; exact beq_eq_false_iff_ne.2 (fun e => by rw [size_len, e] at hd; simp at hd)
  obtain ⟨m, hm⟩ := hm
  have HS := Lib.hid (Tryd.strings_Split s d m w (by omega) hm hd)
  clear hm
  go_enter Tryd.func38, Tryd.ntmps38
  go_wp2_with fail
  refine HS.out.mono ?_
  rintro e w' ⟨rfl, hw⟩
  have HB := Lib.hid (show Blk w' w.heap.size 9 ((piecesOf s d).map Value.string).toArray by rw [hw]; exact Blk.new _ _ _)
  have HBL := Lib.hid (show Below w.heap.size w w' by rw [hw]; exact (Below.refl _ _).alloc (Nat.le_refl _) _)
  clear hw
  obtain ⟨n, hn⟩ : ∃ n, n = Lib.countB s d + 1 := ⟨_, rfl⟩
  have HN := Lib.hid hn
  rw [← hn]
  clear hn
  go_wp2_with fail
  go_ret
  refine ⟨w.heap.size, n, by rw [HN.out, HF.out.len], rfl, ?_, HB.out.lt, HBL.out⟩
  intro j x hx
  rw [HB.out.cell j]
  simp [hx]
theorem pieces_none (s : ByteArray) (w : World) : Calls Tryd.prog 38 #[.string s, .string ⟨#[]⟩] w fun e w' => e = .returned (.slice none 0 0) ∧ w = w' := by
  go_enter Tryd.func38, Tryd.ntmps38
  go_wp2_with fail
  go_ret
  exact ⟨rfl, rfl⟩

def NatPost' (n : Nat) (w : World) (e : Ending) (w' : World) : Prop := ∃ k : Nat, k = n ∧ e = .returned (.int .i64 (k : Int)) ∧ Below w.heap.size w w'
theorem LengthOf_any (s d : ByteArray) (w : World) (hs : s.size ≤ 1000) (hd : 1 ≤ d.size) (hm : MaxL w) : Calls Tryd.prog 11 #[.string s, .string d] w (NatPost' (piecesOf s d).length w) := by
  go_enter Tryd.func11, Tryd.ntmps11
  go_wp2_with fail
  refine (pieces_any s d w hs hd hm).mono ?_
  rintro e w1 ⟨b, n, hn, rfl, _, _, hb1⟩
  have HN := Lib.hid hn
  clear hn
  go_wp2_with fail
  go_ret
  exact ⟨n, HN.out, rfl, hb1⟩
theorem LengthOf_none (s : ByteArray) (w : World) : Calls Tryd.prog 11 #[.string s, .string ⟨#[]⟩] w fun e w' => e = .returned (.int .i64 0) ∧ w = w' := by
  go_enter Tryd.func11, Tryd.ntmps11
  go_wp2_with fail
  refine (pieces_none s w).mono ?_
  rintro e w1 ⟨rfl, rfl⟩
  go_wp2_with fail
  go_ret
  exact ⟨rfl, rfl⟩
theorem bounded_any (m n len : Int) (w : World) (h1 : 1 ≤ m) (h2 : n ≤ len) : Calls Tryd.prog 39 #[.int .i64 m, .int .i64 n, .int .i64 len] w fun e w' => e = .returned (.tuple #[.int .i64 m, .int .i64 n]) ∧ w = w' := by
  have e1 : max 1 m = m := by omega
  have e2 : min n len = n := by omega
  go_enter Tryd.func39, Tryd.ntmps39
  go_wp2_with fail
  go_ret2
  exact ⟨rfl, rfl⟩

set_option maxHeartbeats 1000000 in
theorem PieceOf_any (s d : ByteArray) (m n : Nat) (w : World) (hs : s.size ≤ 1000) (hd : 1 ≤ d.size) (hmx : MaxL w) (h1 : 1 ≤ m) (h2 : m ≤ n) (h3 : n ≤ (piecesOf s d).length)
    (hl : (Lib.join ((((piecesOf s d).take n).drop (m - 1)).map (·.data.toList)) d.data.toList).length ≤ 1000000) :
    Calls Tryd.prog 12 #[.string s, .string d, .int .i64 (m : Int), .int .i64 (n : Int)] w (StrPost (Lib.join ((((piecesOf s d).take n).drop (m - 1)).map (·.data.toList)) d.data.toList) w) := by
  have HF := Lib.hid (pfacts s d hd)
  have hlen : (piecesOf s d).length ≤ 1001 := by rw [HF.out.len]; have := HF.out.le; omega
  go_enter Tryd.func12, Tryd.ntmps12
  go_wp2_with fail
  refine (pieces_any s d w hs hd hmx).mono ?_
  rintro e w1 ⟨b, k, hk, rfl, hc, hbk, hb1⟩
  have HK := Lib.hid hk
  have HC := Lib.hid hc
  have hkn : n ≤ k := by omega
  have hk2 : k ≤ 1001 := by omega
  clear hk hc
  go_wp2_with fail
  refine (bounded_any (m : Int) (n : Int) (k : Int) w1 (by omega) (by omega)).mono ?_
  rintro e w2 ⟨rfl, rfl⟩
  have q1 : ¬ (n : Int) < (m : Int) := by omega
  have q2 : (0 : Int) ≤ (m : Int) - 1 := by omega
  have q3 : ((m : Int) - 1).toNat = m - 1 := by omega
  have q4 : (m : Int) - 1 ≤ (n : Int) := by omega
  have q5 : m - 1 ≤ n := by omega
  have q6 : ¬ k = m - 1 := by omega
  go_wp2_with fail
  have hjl : (((piecesOf s d).take n).drop (m - 1)).length = n - (m - 1) := by rw [List.length_drop, List.length_take]; omega
  have hj := Tryd.strings_Join b (m - 1) (k - (m - 1)) (((piecesOf s d).take n).drop (m - 1)) d w1 (fun j x hx => by
    apply HC.out
    rw [List.getElem?_drop, List.getElem?_take] at hx
    split at hx
    · exact hx
    · cases hx) hbk (by omega) (by omega) (by omega)
  rw [hjl] at hj
  refine (hj.mono (fun e w' h => StrPost.of h.1 h.2)).mono ?_
  rintro e w2 ⟨r, hr, rfl, hb2⟩
  have HR := Lib.hid hr
  clear hr hj hl hjl
  go_wp2_with fail
  go_ret
  exact ⟨r, HR.out, rfl, hb1.trans (hb2.mono hb1.size)⟩

/-- What FindOf gives from the first place on. -/
def findV (s t : ByteArray) : Int := if Lib.index s.data.toList t.data.toList < 0 then 0 else 1 + (Lib.index s.data.toList t.data.toList + t.size)
theorem index_le (s t : List UInt8) : Lib.index s t ≤ s.length := by
  have hge := Lib.index_ge s t
  by_cases h : Lib.index s t = -1
  · omega
  · obtain ⟨i, hi⟩ : ∃ i : Nat, Lib.index s t = (i : Int) := ⟨(Lib.index s t).toNat, by omega⟩
    have := (index_occ hi).2
    omega
set_option maxHeartbeats 1000000 in
theorem FindOf_any (s t : ByteArray) (w : World) (hs : s.size ≤ 1000) (htz : t.size ≤ 1000) (hm : MaxL w) : Calls Tryd.prog 13 #[.string s, .string t, .int .i64 1] w fun e w' => e = .returned (.int .i64 (findV s t)) ∧ w = w' := by
  have hx1 := Lib.index_ge s.data.toList t.data.toList
  have hx2 := index_le s.data.toList t.data.toList
  rw [← size_len] at hx2
  have HX := Lib.hid (show (s.extract 0 s.size).data.toList = s.data.toList by rw [extract_list, List.drop_zero, List.take_of_length_le (by rw [← size_len]; omega)])
  have HFV := Lib.hid (show findV s t = if Lib.index s.data.toList t.data.toList < 0 then 0 else 1 + (Lib.index s.data.toList t.data.toList + t.size) from rfl)
  generalize findV s t = fv at *
  obtain ⟨m, hm⟩ := hm
  have HI := Lib.hid (fun (u : ByteArray) (hu : u.data.toList = s.data.toList) => Tryd.strings_Index u t m w (by rw [size_len, hu, ← size_len]; omega) hm)
  clear hm
  have hss : ¬ (s.size : Int) + 1 < 1 := by omega
  go_enter Tryd.func13, Tryd.ntmps13
  go_wp2_with fail
  refine (HI.out s rfl).mono ?_
  rintro e w1 ⟨rfl, hw⟩
  obtain rfl : w = w1 := hw.symm
  clear hw
  generalize Lib.index s.data.toList t.data.toList = i at *
  by_cases hneg : i < 0
  · have HV := Lib.hid (show fv = 0 by rw [HFV.out, if_pos hneg])
    clear HFV
    go_wp2_with fail
    go_ret
    exact ⟨by rw [HV.out]; rfl, rfl⟩
  · have HV := Lib.hid (show fv = 1 + (i + t.size) by rw [HFV.out, if_neg hneg])
    clear HFV
    go_wp2_with fail
    go_ret
    exact ⟨by rw [HV.out]; rfl, rfl⟩
theorem ExtractOf_all (s : ByteArray) (w : World) (hs : s.size ≤ 1000) : Calls Tryd.prog 14 #[.string s, .int .i64 1, .int .i64 (s.size : Int)] w fun e w' => (∃ r : ByteArray, r = s ∧ e = .returned (.string r)) ∧ w = w' := by
  by_cases h0 : s.size = 0
  · have hz : s = ⟨#[]⟩ := ba_ext (List.length_eq_zero_iff.1 (by rw [← size_len]; exact h0))
    have HZ := Lib.hid hz
    have q : (s.size : Int) < 1 := by omega
    clear hz
    go_enter Tryd.func14, Tryd.ntmps14
    go_wp2_with fail
    refine (bounded_any 1 _ _ w (by omega) (by omega)).mono ?_
    rintro e w1 ⟨rfl, rfl⟩
    go_wp2_with fail
    go_ret
    exact ⟨⟨⟨#[]⟩, HZ.out.symm, rfl⟩, rfl⟩
  · have HX := Lib.hid (show s.extract 0 s.size = s from ba_ext (by rw [extract_list, List.drop_zero, List.take_of_length_le (by rw [← size_len]; omega)]))
    have q : ¬ (s.size : Int) < 1 := by omega
    clear h0
    go_enter Tryd.func14, Tryd.ntmps14
    go_wp2_with fail
    refine (bounded_any 1 _ _ w (by omega) (by omega)).mono ?_
    rintro e w1 ⟨rfl, rfl⟩
    go_wp2_with fail
    go_ret
    first
    | exact ⟨⟨s, rfl, rfl⟩, rfl⟩
    | exact ⟨⟨_, HX.out, rfl⟩, rfl⟩
end Go.Proofs.YtfimopcklknekaaDoor
