/- The program's quoted texts: quoted, QuoteText, UnquoteText, TokenText. -/
import Derived.Test.YtjbjgeekglpmlaaDoorTokImpl
import Derived.Test.YtjbjgeekglpmlaaDoorWByte
import Derived.Test.YtjbjgeekglpmlaaDoorPieces
namespace Go.Proofs.YtjbjgeekglpmlaaDoor
open Go.RowKit Go.Shelf
set_option linter.unusedVariables false

theorem qR_other {c : UInt8} (h : c ≠ 34) (l : List UInt8) : qR (c :: l) = (qR l).map (fun x => (c :: x.1, x.2 + 1)) := by
  cases l with
  | nil => unfold qR; rw [if_neg h]; rfl
  | cons d l => conv => lhs; unfold qR
                rw [if_neg h]
theorem qR_two (l : List UInt8) : qR (34 :: 34 :: l) = (qR l).map (fun x => (34 :: x.1, x.2 + 2)) := by
  conv => lhs; unfold qR
  rw [if_pos rfl, if_pos rfl]
theorem qR_end {l : List UInt8} (h : l.headD 0 ≠ 34) : qR (34 :: l) = some ([], 1) := by
  cases l with
  | nil => rfl
  | cons d l =>
    have h' : d ≠ 34 := h
    unfold qR; rw [if_pos rfl, if_neg h']
theorem bytes_snoc (l : List UInt8) (c : UInt8) : Lib.byteCells l ++ [.int .u8 (c.toNat : Int)] = Lib.byteCells (l ++ [c]) := by simp [Lib.byteCells]

def QPair (l : List UInt8) (w : World) (e : Ending) (w' : World) : Prop := ∃ (r : ByteArray) (n : Nat), r.data.toList = qT l ∧ n = qN l ∧ e = .returned (.tuple #[.string r, .int .i64 (n : Int)]) ∧ Below w.heap.size w w'

set_option maxHeartbeats 4000000 in
theorem quoted_any (s : ByteArray) (w : World) (h1 : 1 ≤ s.size) (hs : s.size ≤ 1000) : Calls Tryd.prog 22 #[.string s] w (QPair (s.data.toList.drop 1) w) := by
  have HL := Lib.hid (size_len s)
  have hb0 : Below w.heap.size w (w.alloc (.cells #[.pointer none, .slice none 0 0] 73)) := (Below.refl _ _).alloc (Nat.le_refl _) _
  have I0 := Lib.hid (Lib.fresh_isBuilder 73 5 w)
  go_enter Tryd.func22, Tryd.ntmps22
  go_wp2_with fail
  go_loopw [5] (fun i wr => ∃ (k : Nat) (acc : List UInt8), 1 ≤ k ∧ k ≤ s.size + 1 ∧ i = .int .i64 k ∧ acc.length ≤ k ∧ Hid ((qR (s.data.toList.drop k)).map (fun x => (acc ++ x.1, x.2 + (k - 1))) = qR (s.data.toList.drop 1)) ∧ Lib.IsBuilder 73 5 w.heap.size w.heap.size (Lib.byteCells acc) wr ∧ Below w.heap.size w wr) (fun i _ => s.size + 1 - (intOf i).toNat)
  case atStart => exact ⟨1, [], by omega, by omega, rfl, by simp, Lib.hid (by cases qR (s.data.toList.drop 1) <;> rfl), I0.out, hb0⟩
  case round =>
    obtain ⟨k, acc, hk1, hk, rfl, hal, hr, hI, hbr⟩ := hrel
    have HI := Lib.hid hI
    have hwr := hbr.size
    clear hI I0 hb0
    have hcl : (Lib.byteCells acc).length ≤ 2000 := by
      have : (Lib.byteCells acc).length = acc.length := by simp [Lib.byteCells]
      omega
    by_cases hlt : k < s.size
    · have HDr := Lib.hid (drop_at' s k hlt)
      have hx : s[k].toNat < 256 := UInt8.toNat_lt _
      by_cases h34 : s[k] = 34
      · have q1 : ((s[k].toNat : Int) != 34) = false := by rw [h34]; rfl
        have q1' : ((s[k].toNat : Int) == 34) = true := by rw [h34]; rfl
        by_cases hlt2 : k + 1 < s.size
        · have HDr2 := Lib.hid (drop_at' s (k + 1) hlt2)
          have hx2 : s[k + 1].toNat < 256 := UInt8.toNat_lt _
          have i1 : (0 : Int) ≤ (k : Int) + 1 := by omega
          have i2 : (k : Int) + 1 < (s.size : Int) := by omega
          have i3 : ((k : Int) + 1).toNat = k + 1 := by omega
          by_cases h34b : s[k + 1] = 34
          · have q2 : ((s[k + 1].toNat : Int) == 34) = true := by rw [h34b]; rfl
            have HN := Lib.hid (show (qR (s.data.toList.drop (k + 2))).map (fun x => ((acc ++ [34]) ++ x.1, x.2 + (k + 2 - 1))) = qR (s.data.toList.drop 1) by
              have h := hr.out
              rw [HDr.out, HDr2.out, h34, h34b, qR_two] at h
              rw [← h, Option.map_map]
              congr 1
              funext x
              simp only [Function.comp, List.append_assoc]
              exact Prod.ext rfl (by show x.2 + (k + 2 - 1) = x.2 + 2 + (k - 1); omega))
            clear hr HDr HDr2 h34 h34b
            go_wp2_with fail
            refine (Tryd.Builder_WriteByte w.heap.size w.heap.size (Lib.byteCells acc) 34 wr HI.out (by omega) (by omega)).mono ?_
            rintro e w1 ⟨rfl, hA, hb1⟩
            have hI2 : Lib.IsBuilder 73 5 w.heap.size w.heap.size (Lib.byteCells (acc ++ [34])) w1 := by rw [← bytes_snoc]; exact .inr hA
            have hbw1 := hbr.trans hb1
            clear hA hb1
            go_wp2_with fail
            go_roundw
            case rel => exact ⟨k + 2, acc ++ [34], by omega, by omega, by go_num, by simp; omega, HN, hI2, hbw1⟩
            case measure => simp [intOf]; omega
          · have q2 : ((s[k + 1].toNat : Int) == 34) = false := beq_eq_false_iff_ne.2 (fun e => h34b (UInt8.toNat_inj.1 (by show s[k + 1].toNat = 34; omega)))
            have HN := Lib.hid (show qR (s.data.toList.drop 1) = some (acc, k) by
              rw [← hr.out, HDr.out, h34, qR_end (by rw [HDr2.out]; exact h34b)]
              show some (acc ++ [], 1 + (k - 1)) = _
              rw [List.append_nil, show 1 + (k - 1) = k by omega])
            clear hr HDr HDr2 h34 h34b
            go_wp2_with fail
            refine (Tryd.Builder_String_any w.heap.size w.heap.size acc wr HI.out (by omega)).mono ?_
            rintro e w1 ⟨rfl, hb1⟩
            have hbw1 := hbr.trans hb1
            obtain ⟨r, hr⟩ : ∃ r : ByteArray, r = ⟨acc.toArray⟩ := ⟨_, rfl⟩
            have HRR := Lib.hid (show r.data.toList = acc by rw [hr])
            rw [← hr]
            clear hr
            go_wp2_with fail
            go_ret2
            exact ⟨r, k + 1, by unfold qT; rw [HN.out]; exact HRR.out, by unfold qN; rw [HN.out], rfl, hbw1⟩
        · have i2 : ¬ (k : Int) + 1 < (s.size : Int) := by omega
          have HN := Lib.hid (show qR (s.data.toList.drop 1) = some (acc, k) by
            rw [← hr.out, HDr.out, h34, List.drop_eq_nil_of_le (by have := HL.out; omega), qR_end (by simp)]
            show some (acc ++ [], 1 + (k - 1)) = _
            rw [List.append_nil, show 1 + (k - 1) = k by omega])
          clear hr HDr h34
          go_wp2_with fail
          refine (Tryd.Builder_String_any w.heap.size w.heap.size acc wr HI.out (by omega)).mono ?_
          rintro e w1 ⟨rfl, hb1⟩
          have hbw1 := hbr.trans hb1
          obtain ⟨r, hr⟩ : ∃ r : ByteArray, r = ⟨acc.toArray⟩ := ⟨_, rfl⟩
          have HRR := Lib.hid (show r.data.toList = acc by rw [hr])
          rw [← hr]
          clear hr
          go_wp2_with fail
          go_ret2
          exact ⟨r, k + 1, by unfold qT; rw [HN.out]; exact HRR.out, by unfold qN; rw [HN.out], rfl, hbw1⟩
      · have q1 : ((s[k].toNat : Int) != 34) = true := by
          rw [bne_iff_ne]; exact fun e => h34 (UInt8.toNat_inj.1 (by show s[k].toNat = 34; omega))
        have q1' : ((s[k].toNat : Int) == 34) = false := beq_eq_false_iff_ne.2 (fun e => h34 (UInt8.toNat_inj.1 (by show s[k].toNat = 34; omega)))
        have HN := Lib.hid (show (qR (s.data.toList.drop (k + 1))).map (fun x => ((acc ++ [s[k]]) ++ x.1, x.2 + (k + 1 - 1))) = qR (s.data.toList.drop 1) by
          have h := hr.out
          rw [HDr.out, qR_other h34] at h
          rw [← h, Option.map_map]
          congr 1
          funext x
          simp only [Function.comp, List.append_assoc]
          exact Prod.ext rfl (by show x.2 + (k + 1 - 1) = x.2 + 1 + (k - 1); omega))
        clear hr HDr h34
        go_wp2_with fail
        refine (Tryd.Builder_WriteByte w.heap.size w.heap.size (Lib.byteCells acc) _ wr HI.out (by omega) (by omega)).mono ?_
        rintro e w1 ⟨rfl, hA, hb1⟩
        have hI2 : Lib.IsBuilder 73 5 w.heap.size w.heap.size (Lib.byteCells (acc ++ [s[k]])) w1 := by rw [← bytes_snoc]; exact .inr hA
        have hbw1 := hbr.trans hb1
        clear hA hb1
        go_wp2_with fail
        go_roundw
        case rel => exact ⟨k + 1, acc ++ [s[k]], by omega, by omega, by go_num, by simp; omega, HN, hI2, hbw1⟩
        case measure => simp [intOf]; omega
    · have HN := Lib.hid (show qR (s.data.toList.drop 1) = none by
        rw [← hr.out, List.drop_eq_nil_of_le (by have := HL.out; omega)]; rfl)
      clear hr
      go_wp2_with fail
      go_ret2
      exact ⟨⟨#[]⟩, 0, by unfold qT; rw [HN.out], by unfold qN; rw [HN.out], rfl, hbr⟩

set_option maxHeartbeats 1000000 in
theorem QuoteText_any (s : ByteArray) (w : World) (hs : s.size ≤ 1000) (hm : MaxL w) : Calls Tryd.prog 12 #[.string s] w (StrPost (34 :: (dbl s.data.toList ++ [34])) w) := by
  obtain ⟨m, hm⟩ := hm
  have hlen : s.size + Lib.countB s ⟨#[34]⟩ * (⟨#[34, 34]⟩ : ByteArray).size ≤ 140737488355328 := by
    have h1 := Lib.countB_le ⟨#[34]⟩ (by decide) s.size s (Nat.le_refl _)
    have h2 : (⟨#[34, 34]⟩ : ByteArray).size = 2 := rfl
    rw [h2]
    omega
  have HR := Lib.hid (Tryd.strings_ReplaceAll s ⟨#[34]⟩ ⟨#[34, 34]⟩ m w (by omega) hm (by decide) hlen)
  have HE := Lib.hid (replaceAll_dbl s.data.toList)
  have HDL := Lib.hid (dbl_len s.data.toList)
  have HL := Lib.hid (size_len s)
  clear hm hlen
  go_enter Tryd.func12, Tryd.ntmps12
  go_wp2_with fail
  refine (HR.out.mono (fun e w' h => StrPost.of h.1 h.2)).mono ?_
  rintro e w1 ⟨r, hr, rfl, hb1⟩
  have HRR := Lib.hid (show r.data.toList = dbl s.data.toList from hr.trans HE.out)
  have rs : r.size ≤ 2000 := by rw [size_len, HRR.out]; have := HDL.out; have := HL.out; omega
  clear hr
  go_wp2_with fail
  go_ret
  exact ⟨_, by rw [app_list, app_list, HRR.out]; rfl, rfl, hb1⟩

/-- A quoted text is read again. -/
theorem UnquoteText_quote (x : List UInt8) (s : ByteArray) (w : World) (hs : s.size ≤ 1000) (hx : s.data.toList = 34 :: (dbl x ++ [34])) : Calls Tryd.prog 11 #[.string s] w fun e w' => (∃ r : ByteArray, r.data.toList = x ∧ e = .returned (.tuple #[.string r, .int .i64 0])) ∧ Below w.heap.size w w' := by
  have HX := Lib.hid hx
  have HQ := Lib.hid (qR_dbl x)
  have h1 : 1 ≤ s.size := by rw [size_len, hx]; simp
  have HD := Lib.hid (show s.data.toList.drop 1 = dbl x ++ [34] by rw [hx]; rfl)
  have HP := Lib.hid (show Lib.hasPrefix s.data.toList [34] = true by rw [hx]; simp [Lib.hasPrefix, List.isPrefixOf])
  have HSZ := Lib.hid (show s.size = (dbl x).length + 1 + 1 by rw [size_len, hx]; simp)
  clear hx
  go_enter Tryd.func11, Tryd.ntmps11
  go_wp2_with fail
  refine (Tryd.strings_HasPrefix s ⟨#[34]⟩ w).mono ?_
  rintro e w1 ⟨rfl, hw⟩
  obtain rfl : w = w1 := hw.symm
  clear hw
  have HP2 := Lib.hid (show Lib.hasPrefix s.data.toList (⟨#[34]⟩ : ByteArray).data.toList = true from HP.out)
  generalize Lib.hasPrefix s.data.toList (⟨#[34]⟩ : ByteArray).data.toList = p at *
  obtain rfl : p = true := HP2.out
  go_wp2_with fail
  refine (quoted_any s w h1 hs).mono ?_
  rintro e w2 ⟨r, n, hr, hn, rfl, hb2⟩
  have HRR := Lib.hid (show r.data.toList = x by rw [hr, HD.out]; unfold qT; rw [HQ.out])
  obtain rfl : n = s.size := by rw [hn, HD.out]; unfold qN; rw [HQ.out, HSZ.out]
  clear hr hn
  go_wp2_with fail
  go_ret2
  exact ⟨⟨r, HRR.out, rfl⟩, hb2⟩

set_option maxHeartbeats 1000000 in
theorem TokenText_any (k : Int) (t : ByteArray) (p : Int) (w : World) (ht : t.size ≤ 1000) (hm : MaxL w) : Calls Tryd.prog 10 #[.agg #[.int .i64 k, .string t, .int .i64 p]] w (StrPost (tokW k t.data.toList) w) := by
  have hb0 : Below w.heap.size w (w.alloc (.cells #[.int .i64 k, .string t, .int .i64 p] 31)) := (Below.refl _ _).alloc (Nat.le_refl _) _
  by_cases h3 : k = 3
  · subst h3
    have HW := Lib.hid (show tokW 3 t.data.toList = 34 :: (dbl t.data.toList ++ [34]) from rfl)
    have hm2 := hm.below hb0
    go_enter Tryd.func10, Tryd.ntmps10
    go_wp2_with fail
    refine (QuoteText_any t _ ht hm2).mono ?_
    rintro e w1 ⟨r, hr, rfl, hb1⟩
    have HRR := Lib.hid hr
    clear hr
    go_wp2_with fail
    go_ret
    exact ⟨r, by rw [HW.out, HRR.out], rfl, hb0.trans (hb1.mono hb0.size)⟩
  · have HW := Lib.hid (show tokW k t.data.toList = t.data.toList by unfold tokW; rw [if_neg h3])
    have q : (k == 3) = false := beq_eq_false_iff_ne.2 h3
    clear h3
    go_enter Tryd.func10, Tryd.ntmps10
    go_wp2_with fail
    go_ret
    exact ⟨t, by rw [HW.out], rfl, hb0⟩
end Go.Proofs.YtjbjgeekglpmlaaDoor
