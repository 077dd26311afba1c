/- The walk of the law FnPieces. -/
import Derived.Test.YtfimopcklknekaaDoorDrawV
import Derived.Test.YtfimopcklknekaaDoorAt
import Derived.Test.YtfimopcklknekaaDoorPieces
namespace Go.Proofs.YtfimopcklknekaaDoor
open Go.RowKit Go.Shelf
set_option linter.unusedVariables false

theorem piece_at (s d : ByteArray) (k : Nat) (h1 : 1 ≤ k) (h2 : k ≤ (piecesOf s d).length) : ∃ p ∈ piecesOf s d, Lib.join ((((piecesOf s d).take k).drop (k - 1)).map (·.data.toList)) d.data.toList = p.data.toList := by
  have hlt : k - 1 < (piecesOf s d).length := by omega
  refine ⟨(piecesOf s d)[k - 1], List.getElem_mem hlt, ?_⟩
  have : ((piecesOf s d).take k).drop (k - 1) = [(piecesOf s d)[k - 1]] := by
    rw [List.drop_take, show k - (k - 1) = 1 by omega, List.drop_eq_getElem_cons hlt]
    rfl
  rw [this, List.map_cons, List.map_nil, join_one]
theorem mem_piece_len (s d : ByteArray) (hd : 1 ≤ d.size) : ∀ p ∈ piecesOf s d, p.size ≤ s.size := by
  have key : ∀ (l : List (List UInt8)) (sep : List UInt8), ∀ p ∈ l, p.length ≤ (Lib.join l sep).length := by
    intro l sep
    induction l with
    | nil => intro p hp; cases hp
    | cons x l ih =>
      intro p hp
      cases l with
      | nil =>
        have : p = x := by simpa using hp
        rw [this, join_one]
        exact Nat.le_refl _
      | cons y l =>
        rw [join_cons2 x (y :: l) sep (by simp)]
        rcases List.mem_cons.1 hp with rfl | hp
        · simp only [List.length_append]; omega
        · have := ih p hp
          simp only [List.length_append]; omega
  intro p hp
  have := key ((piecesOf s d).map (·.data.toList)) d.data.toList p.data.toList (List.mem_map.2 ⟨p, hp, rfl⟩)
  rw [(pfacts s d hd).join] at this
  rw [size_len, size_len]; exact this

set_option maxHeartbeats 4000000 in
theorem FnPieces_walk (a : Option Addr) (len cap : Nat) (w : World) (hb : BytesAt w w.heap.size a len) (hmx : MaxL w) :
    Calls Tryd.prog 3 #[.slice a len cap] w fun e w' => e = .returned (.bool true) ∧ Below w.heap.size w w' := by
  by_cases hlen : 1048576 < len
  · go_enter Tryd.func3, Tryd.ntmps3
    go_wp2_with fail
    go_ret
    exact ⟨rfl, Below.refl _ _⟩
  go_enter Tryd.func3, Tryd.ntmps3
  go_wp2_with fail
  refine (A8Value_any a len cap w (by omega) hb).mono ?_
  rintro e w1 ⟨s, hs, rfl, hb1⟩
  go_wp2_with fail
  obtain ⟨w2, hw2⟩ : ∃ w2, w2 = w1.alloc (.cells #[.string ⟨#[44]⟩, .string ⟨#[45, 45]⟩, .string ⟨#[98]⟩, .string ⟨#[97]⟩] 9) := ⟨_, rfl⟩
  have hB := Lib.hid (show Blk w2 w1.heap.size 9 #[.string ⟨#[44]⟩, .string ⟨#[45, 45]⟩, .string ⟨#[98]⟩, .string ⟨#[97]⟩] by rw [hw2]; exact Blk.new _ _ _)
  have hbw2 : Below w.heap.size w w2 := by rw [hw2]; exact hb1.alloc hb1.size _
  rw [← hw2]
  clear hw2
  refine (a8At_any 2 4 a len cap w2 (by omega) (by omega) (by omega) (by omega) ((hb.below hbw2).more hbw2.size)).mono ?_
  rintro e w3 ⟨r, hr0, hr4, rfl, hb3⟩
  have hbw3 := hbw2.trans (hb3.mono hbw2.size)
  have B3 := Lib.hid (hB.out.below hb3 hB.out.lt)
  obtain ⟨i, rfl⟩ := Int.eq_ofNat_of_zero_le hr0
  have hi : i < 4 := by omega
  obtain ⟨d, hd, hd1, hd2⟩ : ∃ d : ByteArray, w3.cell? ⟨w1.heap.size, i, none⟩ = some (.string d) ∧ 1 ≤ d.size ∧ d.size ≤ 2 := by
    have hcell := B3.out.cell i
    rcases (by omega : i = 0 ∨ i = 1 ∨ i = 2 ∨ i = 3) with rfl | rfl | rfl | rfl
    · exact ⟨_, hcell, by decide, by decide⟩
    · exact ⟨_, hcell, by decide, by decide⟩
    · exact ⟨_, hcell, by decide, by decide⟩
    · exact ⟨_, hcell, by decide, by decide⟩
  clear hB B3 hb1 hb3 hbw2
  have HF := Lib.hid (pfacts s d hd1)
  have i1 : (0 : Int) ≤ (i : Int) := by omega
  have i2 : (i : Int) < 4 := by omega
  go_wp2_with fail
  refine (LengthOf_any s d w3 hs hd1 (hmx.below hbw3)).mono ?_
  rintro e w4 ⟨n, hn, rfl, hb4⟩
  have hbw4 := hbw3.trans (hb4.mono hbw3.size)
  have HN := Lib.hid hn
  have hn1 : 1 ≤ n := by rw [hn, HF.out.len]; omega
  have hn2 : n ≤ s.size + 1 := by rw [hn, HF.out.len]; have := HF.out.le; omega
  clear hn hb4 hd
  have d1 : decide ((n : Int) < 1) = false := decide_eq_false (by omega)
  have d2 : decide ((s.size : Int) + 1 < (n : Int)) = false := decide_eq_false (by omega)
  have HJ := Lib.hid (show Lib.join ((((piecesOf s d).take n).drop (1 - 1)).map (·.data.toList)) d.data.toList = s.data.toList by
    rw [Nat.sub_self, List.drop_zero, HN.out, List.take_length]; exact HF.out.join)
  go_wp2_with fail
  have hP := PieceOf_any s d 1 n w4 hs hd1 (hmx.below hbw4) (by omega) (by omega) (by rw [HN.out]; exact Nat.le_refl _) (by rw [HJ.out, ← size_len]; omega)
  rw [HJ.out] at hP
  refine hP.mono ?_
  rintro e w5 ⟨u, hu, rfl, hb5⟩
  obtain rfl : u = s := ba_ext hu
  have hbw5 := hbw4.trans (hb5.mono hbw4.size)
  clear hP hu hb5
  have huu : (u.toList == u.toList) = true := beq_self_eq_true _
  go_wp2_with fail
  refine (LengthOf_none u w5).mono ?_
  rintro e w6 ⟨rfl, rfl⟩
  go_wp2_with fail
  refine (a8At_any 3 (n : Int) a len cap w5 (by omega) (by omega) (by omega) (by omega) ((hb.below hbw5).more hbw5.size)).mono ?_
  rintro e w6 ⟨k0, hk0, hk1, rfl, hb6⟩
  have hbw6 := hbw5.trans (hb6.mono hbw5.size)
  obtain ⟨k1, rfl⟩ := Int.eq_ofNat_of_zero_le hk0
  have ek : (1 : Int) + (k1 : Int) = ((k1 + 1 : Nat) : Int) := by omega
  obtain ⟨k, hk⟩ : ∃ k, k = k1 + 1 := ⟨_, rfl⟩
  rw [← hk] at ek
  have hk3 : 1 ≤ k ∧ k ≤ n := by omega
  have hk4 : k ≤ 2000 := by omega
  obtain ⟨p, hpm, hpj⟩ := piece_at u d k hk3.1 (by have := HN.out; omega)
  have hps := mem_piece_len u d hd1 p hpm
  have HPF := Lib.hid (HF.out.free p hpm)
  have HPJ := Lib.hid hpj
  clear hk hk0 hk1 hb6 hpj hpm
  go_wp2_with fail
  have hQ := PieceOf_any u d k k w6 hs hd1 (hmx.below hbw6) hk3.1 (Nat.le_refl _) (by have := HN.out; omega) (by rw [HPJ.out, ← size_len]; omega)
  rw [HPJ.out] at hQ
  refine hQ.mono ?_
  rintro e w7 ⟨v, hv, rfl, hb7⟩
  obtain rfl : v = p := ba_ext hv
  have hbw7 := hbw6.trans (hb7.mono hbw6.size)
  clear hQ hv hb7 HPJ
  have HV0 := Lib.hid (show findV v d = 0 by unfold findV; rw [HPF.out]; rfl)
  go_wp2_with fail
  refine (FindOf_any v d w7 (by omega) (by omega) (hmx.below hbw7)).mono ?_
  rintro e w8 ⟨rfl, rfl⟩
  rw [HV0.out]
  go_wp2_with fail
  refine (FindOf_any u d w7 (by omega) (by omega) (hmx.below hbw7)).mono ?_
  rintro e w8 ⟨rfl, rfl⟩
  have HFD := Lib.hid (show (0 < findV u d) ↔ 1 < n by
    have h1 := HF.out.find
    have h2 := HF.out.len
    have h3 := HN.out
    unfold findV
    by_cases h : Lib.index u.data.toList d.data.toList < 0
    · rw [if_pos h]; omega
    · rw [if_neg h]; omega)
  generalize findV u d = fv at *
  by_cases hfv : 0 < fv
  · have q1 : decide (0 < fv) = true := decide_eq_true hfv
    have q2 : decide (1 < n) = true := decide_eq_true (HFD.out.1 hfv)
    have q3 : decide ((1 : Int) < (n : Int)) = true := decide_eq_true (by have := HFD.out.1 hfv; omega)
    clear HFD
    go_wp2_with fail
    refine (ExtractOf_all u w7 hs).mono ?_
    rintro e w8 ⟨⟨x, rfl, rfl⟩, rfl⟩
    go_wp2_with fail
    go_ret
    exact ⟨rfl, hbw7⟩
  · have q1 : decide (0 < fv) = false := decide_eq_false hfv
    have q2 : decide (1 < n) = false := decide_eq_false (fun h => hfv (HFD.out.2 h))
    have q3 : decide ((1 : Int) < (n : Int)) = false := decide_eq_false (fun h => hfv (HFD.out.2 (by omega)))
    clear HFD
    go_wp2_with fail
    refine (ExtractOf_all u w7 hs).mono ?_
    rintro e w8 ⟨⟨x, rfl, rfl⟩, rfl⟩
    go_wp2_with fail
    go_ret
    exact ⟨rfl, hbw7⟩
end Go.Proofs.YtfimopcklknekaaDoor
