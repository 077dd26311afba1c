/- The program's tokenAt. -/
import Derived.Test.YtjbjgeekglpmlaaDoorTokQuoted
namespace Go.Proofs.YtjbjgeekglpmlaaDoor
open Go.RowKit Go.Shelf
set_option linter.unusedVariables false

/-- A token and its length come back. -/
def TokPost (l : List UInt8) (p : Nat) (w : World) (e : Ending) (w' : World) : Prop :=
  ∃ (k : Int) (t : ByteArray) (n : Nat), k = tokK l ∧ t.data.toList = tokT l ∧ n = tokN l ∧ e = .returned (.tuple #[.agg #[.int .i64 k, .string t, .int .i64 (p : Int)], .int .i64 (n : Int)]) ∧ Below w.heap.size w w'

theorem head_at (r : ByteArray) (h : 1 ≤ r.size) : r.data.toList.headD 0 = r[0] := by
  have := drop_at' r 0 (by omega)
  rw [List.drop_zero] at this
  rw [this]; rfl
theorem below2 {w w1 : World} {a b : Obj} (h : Below ((w.alloc a).alloc b).heap.size ((w.alloc a).alloc b) w1) : Below w.heap.size w w1 :=
  (((Below.refl _ _).alloc (Nat.le_refl _) a).alloc (by simp) b).trans (h.mono (by simp; omega))

theorem tok_blocks {w w1 : World} {A C : Array Value} {t u : TypeId} (h : Below ((w.alloc (.cells A t)).alloc (.cells C u)).heap.size ((w.alloc (.cells A t)).alloc (.cells C u)) w1) :
    Blk w1 w.heap.size t A ∧ Blk w1 (w.heap.size + 1) u C ∧ w.heap.size + 2 ≤ w1.heap.size := by
  have hz := h.size
  have h1 : Blk ((w.alloc (.cells A t)).alloc (.cells C u)) w.heap.size t A := (Blk.new w t A).alloc _
  have h2 : Blk ((w.alloc (.cells A t)).alloc (.cells C u)) (w.heap.size + 1) u C := by
    have := Blk.new (w.alloc (.cells A t)) u C
    rwa [show (w.alloc (.cells A t)).heap.size = w.heap.size + 1 by simp] at this
  exact ⟨h1.below h h1.lt, h2.below h h2.lt, by simp at hz; omega⟩

set_option maxHeartbeats 4000000 in
theorem tokenAt_any (s : ByteArray) (p : Nat) (w : World) (hp : p < s.size) (hs : s.size ≤ 1000) : Calls Tryd.prog 19 #[.string s, .int .i64 (p : Int)] w (TokPost (s.data.toList.drop p) p w) := by
  have HX := Lib.hid (show (s.extract p s.size).data.toList = s.data.toList.drop p by rw [extract_list, List.take_of_length_le (by rw [← size_len]; omega)])
  have hr1 : 1 ≤ (s.extract p s.size).size := by rw [ByteArray.size_extract]; omega
  have hr2 : (s.extract p s.size).size ≤ 1000 := by rw [ByteArray.size_extract]; omega
  have HNL := Lib.hid (tokN_le (l := s.data.toList.drop p) (by intro e; have := congrArg List.length e; rw [List.length_drop, ← size_len] at this; simp at this; omega))
  rw [← HX.out] at HNL ⊢
  have hpz : p ≤ s.size := by omega
  go_enter Tryd.func19, Tryd.ntmps19
  go_upto_region 4 with fail
  generalize s.extract p s.size = r at *
  clear HX
  have HH := Lib.hid (head_at r hr1)
  have hx : r[0].toNat < 256 := UInt8.toNat_lt _
  have HLN := Lib.hid (size_len r)
  by_cases h32 : r[0] = 32
  · have q : ((r[0].toNat : Int) == 32) = true := by rw [h32]; rfl
    have HK := Lib.hid (show tokK r.data.toList = 5 by unfold tokK; rw [HH.out, if_pos h32])
    have HN := Lib.hid (show tokN r.data.toList = 1 by unfold tokN; rw [HH.out, if_pos h32])
    have HT := Lib.hid (show tokT r.data.toList = (r.extract 0 1).data.toList by unfold tokT; rw [HH.out, if_neg (by rw [h32]; decide), HN.out, extract_list, List.drop_zero])
    clear h32
    go_wp2_with fail
    refine bodyPost_ret (v := .tuple #[.agg #[.int .i64 5, .string (r.extract 0 1), .int .i64 (p : Int)], .int .i64 1]) (by simp [results, Tryd.results19, go_sem]) rfl ⟨5, _, 1, by rw [HK.out], by rw [HT.out], by rw [HN.out], rfl, ?_⟩
    exact ((Below.refl _ _).alloc (Nat.le_refl _) _).alloc (by simp) _
  have q32 : ((r[0].toNat : Int) == 32) = false := beq_eq_false_iff_ne.2 (fun e => h32 (UInt8.toNat_inj.1 (by show r[0].toNat = 32; omega)))
  by_cases h34 : r[0] = 34
  · have q : ((r[0].toNat : Int) == 34) = true := by rw [h34]; rfl
    have HK := Lib.hid (show tokK r.data.toList = 3 by unfold tokK; rw [HH.out, if_neg h32, if_pos h34])
    have HN := Lib.hid (show tokN r.data.toList = qN (r.data.toList.drop 1) by unfold tokN; rw [HH.out, if_neg h32, if_pos h34])
    have HT := Lib.hid (show tokT r.data.toList = qT (r.data.toList.drop 1) by unfold tokT; rw [HH.out, if_pos h34])
    clear h32 h34
    go_wp2_with fail
    refine (quoted_any r _ hr1 hr2).mono ?_
    rintro e w1 ⟨t, n, ht, hn, rfl, hb1⟩
    have HTT := Lib.hid ht; have HNN := Lib.hid hn
    clear ht hn
    obtain ⟨B4, B7, hz⟩ := tok_blocks hb1
    have c40 : w1.cell? ⟨w.heap.size, 0, none⟩ = some (.int .i64 0) := B4.cell 0
    have c41 : w1.cell? ⟨w.heap.size, 1, none⟩ = some (.string ⟨#[]⟩) := B4.cell 1
    have c42 : w1.cell? ⟨w.heap.size, 2, none⟩ = some (.int .i64 0) := B4.cell 2
    have c70 : w1.cell? ⟨w.heap.size + 1, 0, none⟩ = some (.int .i64 3) := B7.cell 0
    have c71 : w1.cell? ⟨w.heap.size + 1, 1, none⟩ = some (.string ⟨#[]⟩) := B7.cell 1
    have c72 : w1.cell? ⟨w.heap.size + 1, 2, none⟩ = some (.int .i64 (p : Int)) := B7.cell 2
    have f40 : w1.frozen? ⟨w.heap.size, 0, none⟩ = false := B4.frozen 0
    have f41 : w1.frozen? ⟨w.heap.size, 1, none⟩ = false := B4.frozen 1
    have f42 : w1.frozen? ⟨w.heap.size, 2, none⟩ = false := B4.frozen 2
    have f70 : w1.frozen? ⟨w.heap.size + 1, 0, none⟩ = false := B7.frozen 0
    have f71 : w1.frozen? ⟨w.heap.size + 1, 1, none⟩ = false := B7.frozen 1
    have f72 : w1.frozen? ⟨w.heap.size + 1, 2, none⟩ = false := B7.frozen 2
    go_wp2_with fail
    refine bodyPost_ret (v := .tuple #[.agg #[.int .i64 3, .string t, .int .i64 (p : Int)], .int .i64 (n : Int)]) (by simp [results, Tryd.results19, go_sem, c40, c41, c42]) rfl ⟨3, t, n, by rw [HK.out], by rw [HT.out, HTT.out], by rw [HN.out, HNN.out], rfl, ?_⟩
    repeat (first | exact below2 hb1 | refine Below.setCell ?_ (by first | exact Nat.le_refl _ | (show w.heap.size ≤ w.heap.size + 1; omega)) _)
  have q34 : ((r[0].toNat : Int) == 34) = false := beq_eq_false_iff_ne.2 (fun e => h34 (UInt8.toNat_inj.1 (by show r[0].toNat = 34; omega)))
  have HTT := Lib.hid (show tokT r.data.toList = (r.extract 0 (tokN r.data.toList)).data.toList by unfold tokT; rw [HH.out, if_neg h34, extract_list, List.drop_zero])
  have HL37 := Lib.hid (show isName r[0] = (letterB r[0].toNat || (r[0] == 37)) from rfl)
  cases hnm : isName r[0]
  · have HK0 := Lib.hid (show tokK r.data.toList = if isNumT r.data.toList = true then 2 else 4 by unfold tokK; rw [HH.out, if_neg h32, if_neg h34, hnm, if_neg (by simp)])
    have HN0 := Lib.hid (show tokN r.data.toList = if isNumT r.data.toList = true then numLen r.data.toList else signLen r.data.toList by unfold tokN; rw [HH.out, if_neg h32, if_neg h34, hnm, if_neg (by simp)])
    have hl : letterB r[0].toNat = false := by
      have := HL37.out; rw [hnm] at this
      cases h : letterB r[0].toNat with
      | false => rfl
      | true => rw [h] at this; cases this
    have h37 : r[0] ≠ 37 := by
      intro e
      have := HL37.out; rw [hnm, e] at this
      simp at this
    have q37 : ((r[0].toNat : Int) == 37) = false := beq_eq_false_iff_ne.2 (fun e => h37 (UInt8.toNat_inj.1 (by show r[0].toNat = 37; omega)))
    have HLT := Lib.hid hl
    clear hl h37 hnm HL37
    have HNT := Lib.hid (show isNumT r.data.toList = (isDig r[0] || (r[0] == 46 && headDig (r.data.toList.drop 1))) by unfold isNumT; rw [HH.out])
    -- is it a number?
    cases hnum : isNumT r.data.toList
    · have HK := Lib.hid (show tokK r.data.toList = 4 by rw [HK0.out, hnum, if_neg (by simp)])
      have HN := Lib.hid (show tokN r.data.toList = signLen r.data.toList by rw [HN0.out, hnum, if_neg (by simp)])
      have hd : digitB r[0].toNat = false := by
        have := HNT.out; rw [hnum] at this
        cases h : isDig r[0] with
        | false => exact h
        | true => rw [h] at this; cases this
      have HD := Lib.hid hd
      have HSG := Lib.hid (fun (w1 : World) => signLength_any r w1 hr1 hr2)
      clear hd
      by_cases h46 : r[0] = 46
      · have q46 : ((r[0].toNat : Int) == 46) = true := by rw [h46]; rfl
        by_cases h2 : 1 < r.size
        · have i2 : (1 : Int) < (r.size : Int) := by omega
          have hx1 : r[1].toNat < 256 := UInt8.toNat_lt _
          have hd1 : digitB r[1].toNat = false := by
            have := HNT.out
            rw [hnum, drop_at' r 1 h2] at this
            cases h : isDig r[1] with
            | false => exact h
            | true => rw [h46] at this; simp [headDig, h] at this
          have HD1 := Lib.hid hd1
          clear hd1 h46 HNT hnum
          go_wp2_with fail
          refine (isLetter_any r[0].toNat false HLT.out _).mono ?_
          rintro e w9 ⟨rfl, rfl⟩
          go_wp2_with fail
          refine (isDigit_any r[0].toNat false HD.out _).mono ?_
          rintro e w9 ⟨rfl, rfl⟩
          go_wp2_with fail
          refine (isDigit_any r[1].toNat false HD1.out _).mono ?_
          rintro e w9 ⟨rfl, rfl⟩
          go_wp2_with fail
          refine (HSG.out _).mono ?_
          rintro e w1 ⟨n, hn, rfl, hb1⟩
          have HNN := Lib.hid (show tokN r.data.toList = n by rw [HN.out, hn])
          have hnr : n ≤ r.size := by rw [← HNN.out, size_len]; exact HNL.out
          clear hn
          obtain ⟨B4, B7, hz⟩ := tok_blocks hb1
          have c40 : w1.cell? ⟨w.heap.size, 0, none⟩ = some (.int .i64 0) := B4.cell 0
          have c41 : w1.cell? ⟨w.heap.size, 1, none⟩ = some (.string ⟨#[]⟩) := B4.cell 1
          have c42 : w1.cell? ⟨w.heap.size, 2, none⟩ = some (.int .i64 0) := B4.cell 2
          have c70 : w1.cell? ⟨w.heap.size + 1, 0, none⟩ = some (.int .i64 0) := B7.cell 0
          have c71 : w1.cell? ⟨w.heap.size + 1, 1, none⟩ = some (.string ⟨#[]⟩) := B7.cell 1
          have c72 : w1.cell? ⟨w.heap.size + 1, 2, none⟩ = some (.int .i64 (p : Int)) := B7.cell 2
          have f40 : w1.frozen? ⟨w.heap.size, 0, none⟩ = false := B4.frozen 0
          have f41 : w1.frozen? ⟨w.heap.size, 1, none⟩ = false := B4.frozen 1
          have f42 : w1.frozen? ⟨w.heap.size, 2, none⟩ = false := B4.frozen 2
          have f70 : w1.frozen? ⟨w.heap.size + 1, 0, none⟩ = false := B7.frozen 0
          have f71 : w1.frozen? ⟨w.heap.size + 1, 1, none⟩ = false := B7.frozen 1
          have f72 : w1.frozen? ⟨w.heap.size + 1, 2, none⟩ = false := B7.frozen 2
          go_wp2_with fail
          refine bodyPost_ret (v := .tuple #[.agg #[.int .i64 4, .string (r.extract 0 n), .int .i64 (p : Int)], .int .i64 (n : Int)]) (by simp [results, Tryd.results19, go_sem, c40, c41, c42]) rfl ⟨4, _, n, by rw [HK.out], by rw [HTT.out, HNN.out], by rw [HNN.out], rfl, ?_⟩
          repeat (first | exact below2 hb1 | refine Below.setCell ?_ (by first | exact Nat.le_refl _ | (show w.heap.size ≤ w.heap.size + 1; omega)) _)
        · have i2 : decide ((1 : Int) < (r.size : Int)) = false := decide_eq_false (by omega)
          clear h46 HNT hnum
          go_wp2_with fail
          refine (isLetter_any r[0].toNat false HLT.out _).mono ?_
          rintro e w9 ⟨rfl, rfl⟩
          go_wp2_with fail
          refine (isDigit_any r[0].toNat false HD.out _).mono ?_
          rintro e w9 ⟨rfl, rfl⟩
          go_wp2_with fail
          refine (HSG.out _).mono ?_
          rintro e w1 ⟨n, hn, rfl, hb1⟩
          have HNN := Lib.hid (show tokN r.data.toList = n by rw [HN.out, hn])
          have hnr : n ≤ r.size := by rw [← HNN.out, size_len]; exact HNL.out
          clear hn
          obtain ⟨B4, B7, hz⟩ := tok_blocks hb1
          have c40 : w1.cell? ⟨w.heap.size, 0, none⟩ = some (.int .i64 0) := B4.cell 0
          have c41 : w1.cell? ⟨w.heap.size, 1, none⟩ = some (.string ⟨#[]⟩) := B4.cell 1
          have c42 : w1.cell? ⟨w.heap.size, 2, none⟩ = some (.int .i64 0) := B4.cell 2
          have c70 : w1.cell? ⟨w.heap.size + 1, 0, none⟩ = some (.int .i64 0) := B7.cell 0
          have c71 : w1.cell? ⟨w.heap.size + 1, 1, none⟩ = some (.string ⟨#[]⟩) := B7.cell 1
          have c72 : w1.cell? ⟨w.heap.size + 1, 2, none⟩ = some (.int .i64 (p : Int)) := B7.cell 2
          have f40 : w1.frozen? ⟨w.heap.size, 0, none⟩ = false := B4.frozen 0
          have f41 : w1.frozen? ⟨w.heap.size, 1, none⟩ = false := B4.frozen 1
          have f42 : w1.frozen? ⟨w.heap.size, 2, none⟩ = false := B4.frozen 2
          have f70 : w1.frozen? ⟨w.heap.size + 1, 0, none⟩ = false := B7.frozen 0
          have f71 : w1.frozen? ⟨w.heap.size + 1, 1, none⟩ = false := B7.frozen 1
          have f72 : w1.frozen? ⟨w.heap.size + 1, 2, none⟩ = false := B7.frozen 2
          go_wp2_with fail
          refine bodyPost_ret (v := .tuple #[.agg #[.int .i64 4, .string (r.extract 0 n), .int .i64 (p : Int)], .int .i64 (n : Int)]) (by simp [results, Tryd.results19, go_sem, c40, c41, c42]) rfl ⟨4, _, n, by rw [HK.out], by rw [HTT.out, HNN.out], by rw [HNN.out], rfl, ?_⟩
          repeat (first | exact below2 hb1 | refine Below.setCell ?_ (by first | exact Nat.le_refl _ | (show w.heap.size ≤ w.heap.size + 1; omega)) _)
      · have q46 : ((r[0].toNat : Int) == 46) = false := beq_eq_false_iff_ne.2 (fun e => h46 (UInt8.toNat_inj.1 (by show r[0].toNat = 46; omega)))
        clear h46 HNT hnum
        go_wp2_with fail
        refine (isLetter_any r[0].toNat false HLT.out _).mono ?_
        rintro e w9 ⟨rfl, rfl⟩
        go_wp2_with fail
        refine (isDigit_any r[0].toNat false HD.out _).mono ?_
        rintro e w9 ⟨rfl, rfl⟩
        go_wp2_with fail
        refine (HSG.out _).mono ?_
        rintro e w1 ⟨n, hn, rfl, hb1⟩
        have HNN := Lib.hid (show tokN r.data.toList = n by rw [HN.out, hn])
        have hnr : n ≤ r.size := by rw [← HNN.out, size_len]; exact HNL.out
        clear hn
        obtain ⟨B4, B7, hz⟩ := tok_blocks hb1
        have c40 : w1.cell? ⟨w.heap.size, 0, none⟩ = some (.int .i64 0) := B4.cell 0
        have c41 : w1.cell? ⟨w.heap.size, 1, none⟩ = some (.string ⟨#[]⟩) := B4.cell 1
        have c42 : w1.cell? ⟨w.heap.size, 2, none⟩ = some (.int .i64 0) := B4.cell 2
        have c70 : w1.cell? ⟨w.heap.size + 1, 0, none⟩ = some (.int .i64 0) := B7.cell 0
        have c71 : w1.cell? ⟨w.heap.size + 1, 1, none⟩ = some (.string ⟨#[]⟩) := B7.cell 1
        have c72 : w1.cell? ⟨w.heap.size + 1, 2, none⟩ = some (.int .i64 (p : Int)) := B7.cell 2
        have f40 : w1.frozen? ⟨w.heap.size, 0, none⟩ = false := B4.frozen 0
        have f41 : w1.frozen? ⟨w.heap.size, 1, none⟩ = false := B4.frozen 1
        have f42 : w1.frozen? ⟨w.heap.size, 2, none⟩ = false := B4.frozen 2
        have f70 : w1.frozen? ⟨w.heap.size + 1, 0, none⟩ = false := B7.frozen 0
        have f71 : w1.frozen? ⟨w.heap.size + 1, 1, none⟩ = false := B7.frozen 1
        have f72 : w1.frozen? ⟨w.heap.size + 1, 2, none⟩ = false := B7.frozen 2
        go_wp2_with fail
        refine bodyPost_ret (v := .tuple #[.agg #[.int .i64 4, .string (r.extract 0 n), .int .i64 (p : Int)], .int .i64 (n : Int)]) (by simp [results, Tryd.results19, go_sem, c40, c41, c42]) rfl ⟨4, _, n, by rw [HK.out], by rw [HTT.out, HNN.out], by rw [HNN.out], rfl, ?_⟩
        repeat (first | exact below2 hb1 | refine Below.setCell ?_ (by first | exact Nat.le_refl _ | (show w.heap.size ≤ w.heap.size + 1; omega)) _)
    · have HK := Lib.hid (show tokK r.data.toList = 2 by rw [HK0.out, hnum, if_pos rfl])
      have HN := Lib.hid (show tokN r.data.toList = numLen r.data.toList by rw [HN0.out, hnum, if_pos rfl])
      have HSG := Lib.hid (fun (w1 : World) => numberLength_any r w1 hr2)
      cases hd : isDig r[0]
      · have h46 : r[0] = 46 := by
          have := HNT.out; rw [hnum, hd] at this
          simp at this
          exact this.1
        have h2 : 1 < r.size := by
          have := HNT.out; rw [hnum, hd] at this
          rcases Nat.lt_or_ge 1 r.size with h | h
          · exact h
          · rw [List.drop_eq_nil_of_le (by rw [← size_len]; omega)] at this
            simp [headDig] at this
        have hd1 : digitB r[1].toNat = true := by
          have := HNT.out; rw [hnum, hd, drop_at' r 1 h2] at this
          simp [headDig] at this
          exact this.2
        have q46 : ((r[0].toNat : Int) == 46) = true := by rw [h46]; rfl
        have i2 : (1 : Int) < (r.size : Int) := by omega
        have hx1 : r[1].toNat < 256 := UInt8.toNat_lt _
        have HD := Lib.hid (show digitB r[0].toNat = false from hd)
        have HD1 := Lib.hid hd1
        clear hd hd1 h46 HNT hnum
        go_wp2_with fail
        refine (isLetter_any r[0].toNat false HLT.out _).mono ?_
        rintro e w9 ⟨rfl, rfl⟩
        go_wp2_with fail
        refine (isDigit_any r[0].toNat false HD.out _).mono ?_
        rintro e w9 ⟨rfl, rfl⟩
        go_wp2_with fail
        refine (isDigit_any r[1].toNat true HD1.out _).mono ?_
        rintro e w9 ⟨rfl, rfl⟩
        go_wp2_with fail
        refine (HSG.out _).mono ?_
        rintro e w1 ⟨n, hn, rfl, hb1⟩
        have HNN := Lib.hid (show tokN r.data.toList = n by rw [HN.out, hn])
        have hnr : n ≤ r.size := by rw [← HNN.out, size_len]; exact HNL.out
        clear hn
        obtain ⟨B4, B7, hz⟩ := tok_blocks hb1
        have c40 : w1.cell? ⟨w.heap.size, 0, none⟩ = some (.int .i64 0) := B4.cell 0
        have c41 : w1.cell? ⟨w.heap.size, 1, none⟩ = some (.string ⟨#[]⟩) := B4.cell 1
        have c42 : w1.cell? ⟨w.heap.size, 2, none⟩ = some (.int .i64 0) := B4.cell 2
        have c70 : w1.cell? ⟨w.heap.size + 1, 0, none⟩ = some (.int .i64 0) := B7.cell 0
        have c71 : w1.cell? ⟨w.heap.size + 1, 1, none⟩ = some (.string ⟨#[]⟩) := B7.cell 1
        have c72 : w1.cell? ⟨w.heap.size + 1, 2, none⟩ = some (.int .i64 (p : Int)) := B7.cell 2
        have f40 : w1.frozen? ⟨w.heap.size, 0, none⟩ = false := B4.frozen 0
        have f41 : w1.frozen? ⟨w.heap.size, 1, none⟩ = false := B4.frozen 1
        have f42 : w1.frozen? ⟨w.heap.size, 2, none⟩ = false := B4.frozen 2
        have f70 : w1.frozen? ⟨w.heap.size + 1, 0, none⟩ = false := B7.frozen 0
        have f71 : w1.frozen? ⟨w.heap.size + 1, 1, none⟩ = false := B7.frozen 1
        have f72 : w1.frozen? ⟨w.heap.size + 1, 2, none⟩ = false := B7.frozen 2
        go_wp2_with fail
        refine bodyPost_ret (v := .tuple #[.agg #[.int .i64 2, .string (r.extract 0 n), .int .i64 (p : Int)], .int .i64 (n : Int)]) (by simp [results, Tryd.results19, go_sem, c40, c41, c42]) rfl ⟨2, _, n, by rw [HK.out], by rw [HTT.out, HNN.out], by rw [HNN.out], rfl, ?_⟩
        repeat (first | exact below2 hb1 | refine Below.setCell ?_ (by first | exact Nat.le_refl _ | (show w.heap.size ≤ w.heap.size + 1; omega)) _)
      · have HD := Lib.hid (show digitB r[0].toNat = true from hd)
        clear hd HNT hnum
        go_wp2_with fail
        refine (isLetter_any r[0].toNat false HLT.out _).mono ?_
        rintro e w9 ⟨rfl, rfl⟩
        go_wp2_with fail
        refine (isDigit_any r[0].toNat true HD.out _).mono ?_
        rintro e w9 ⟨rfl, rfl⟩
        go_wp2_with fail
        refine (HSG.out _).mono ?_
        rintro e w1 ⟨n, hn, rfl, hb1⟩
        have HNN := Lib.hid (show tokN r.data.toList = n by rw [HN.out, hn])
        have hnr : n ≤ r.size := by rw [← HNN.out, size_len]; exact HNL.out
        clear hn
        obtain ⟨B4, B7, hz⟩ := tok_blocks hb1
        have c40 : w1.cell? ⟨w.heap.size, 0, none⟩ = some (.int .i64 0) := B4.cell 0
        have c41 : w1.cell? ⟨w.heap.size, 1, none⟩ = some (.string ⟨#[]⟩) := B4.cell 1
        have c42 : w1.cell? ⟨w.heap.size, 2, none⟩ = some (.int .i64 0) := B4.cell 2
        have c70 : w1.cell? ⟨w.heap.size + 1, 0, none⟩ = some (.int .i64 0) := B7.cell 0
        have c71 : w1.cell? ⟨w.heap.size + 1, 1, none⟩ = some (.string ⟨#[]⟩) := B7.cell 1
        have c72 : w1.cell? ⟨w.heap.size + 1, 2, none⟩ = some (.int .i64 (p : Int)) := B7.cell 2
        have f40 : w1.frozen? ⟨w.heap.size, 0, none⟩ = false := B4.frozen 0
        have f41 : w1.frozen? ⟨w.heap.size, 1, none⟩ = false := B4.frozen 1
        have f42 : w1.frozen? ⟨w.heap.size, 2, none⟩ = false := B4.frozen 2
        have f70 : w1.frozen? ⟨w.heap.size + 1, 0, none⟩ = false := B7.frozen 0
        have f71 : w1.frozen? ⟨w.heap.size + 1, 1, none⟩ = false := B7.frozen 1
        have f72 : w1.frozen? ⟨w.heap.size + 1, 2, none⟩ = false := B7.frozen 2
        go_wp2_with fail
        refine bodyPost_ret (v := .tuple #[.agg #[.int .i64 2, .string (r.extract 0 n), .int .i64 (p : Int)], .int .i64 (n : Int)]) (by simp [results, Tryd.results19, go_sem, c40, c41, c42]) rfl ⟨2, _, n, by rw [HK.out], by rw [HTT.out, HNN.out], by rw [HNN.out], rfl, ?_⟩
        repeat (first | exact below2 hb1 | refine Below.setCell ?_ (by first | exact Nat.le_refl _ | (show w.heap.size ≤ w.heap.size + 1; omega)) _)
  · have HK := Lib.hid (show tokK r.data.toList = 1 by unfold tokK; rw [HH.out, if_neg h32, if_neg h34, hnm, if_pos rfl])
    have HN := Lib.hid (show tokN r.data.toList = nameLen r.data.toList by unfold tokN; rw [HH.out, if_neg h32, if_neg h34, hnm, if_pos rfl])
    have hnl : nameLen r.data.toList ≤ r.size := by rw [← HN.out, size_len]; exact HNL.out
    have HNM := Lib.hid (fun (w1 : World) => nameLength_any r w1 hr1 hr2)
    rw [HN.out] at HTT
    cases hl : letterB r[0].toNat
    · have h37 : r[0] = 37 := by
        have := HL37.out; rw [hnm, hl] at this
        simpa using this.symm
      have q37 : ((r[0].toNat : Int) == 37) = true := by rw [h37]; rfl
      have HLT := Lib.hid hl
      clear hl h37 hnm HL37 h32 h34
      go_wp2_with fail
      refine (isLetter_any r[0].toNat false HLT.out _).mono ?_
      rintro e w9 ⟨rfl, rfl⟩
      go_wp2_with fail
      refine (HNM.out _).mono ?_
      rintro e w1 ⟨rfl, rfl⟩
      generalize nameLen r.data.toList = n at *
      go_wp2_with fail
      refine bodyPost_ret (v := .tuple #[.agg #[.int .i64 1, .string (r.extract 0 n), .int .i64 (p : Int)], .int .i64 (n : Int)]) (by simp [results, Tryd.results19, go_sem]) rfl ⟨1, _, n, by rw [HK.out], by rw [HTT.out], by rw [HN.out], rfl, ?_⟩
      exact ((Below.refl _ _).alloc (Nat.le_refl _) _).alloc (by simp) _
    · have HLT := Lib.hid hl
      clear hl hnm HL37 h32 h34
      go_wp2_with fail
      refine (isLetter_any r[0].toNat true HLT.out _).mono ?_
      rintro e w9 ⟨rfl, rfl⟩
      go_wp2_with fail
      refine (HNM.out _).mono ?_
      rintro e w1 ⟨rfl, rfl⟩
      generalize nameLen r.data.toList = n at *
      go_wp2_with fail
      refine bodyPost_ret (v := .tuple #[.agg #[.int .i64 1, .string (r.extract 0 n), .int .i64 (p : Int)], .int .i64 (n : Int)]) (by simp [results, Tryd.results19, go_sem]) rfl ⟨1, _, n, by rw [HK.out], by rw [HTT.out], by rw [HN.out], rfl, ?_⟩
      exact ((Below.refl _ _).alloc (Nat.le_refl _) _).alloc (by simp) _
end Go.Proofs.YtjbjgeekglpmlaaDoor
