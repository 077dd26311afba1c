/- The law FnStamp: the plain part on lists, and the walk. -/
import Derived.Test.YtajchbafolgcoaaStamp
namespace Go.Proofs.Ytajchbafolgcoaa
open Go.RowKit
set_option linter.unusedVariables false

theorem stamp_law (st ot ma mb : List UInt8) (L n : Nat) (hs : st.length = L) (ho : ot.length = L) (h1 : 1 ≤ L) (h2 : L ≤ 16)
    (ha : (st ++ ma ++ st).length = 100) (hb : (ot ++ mb ++ ot).length = 100) (hne : st ≠ ot) (hn : n ≤ 100) (t : List UInt8)
    (ht : t = (st ++ ma ++ st).take n ++ (ot ++ mb ++ ot).drop n) (hok : t.take L = t.drop (100 - L)) :
    (t.take L = st ∧ t = st ++ ma ++ st) ∨ (t.take L = ot ∧ t = ot ++ mb ++ ot) := by
  have hla : ma.length = 100 - 2 * L := by simp only [List.length_append] at ha; omega
  have hlb : mb.length = 100 - 2 * L := by simp only [List.length_append] at hb; omega
  have a1 : (st ++ ma ++ st).take L = st := by rw [List.append_assoc, List.take_append_of_le_length (by omega), List.take_of_length_le (by omega)]
  have b1 : (ot ++ mb ++ ot).take L = ot := by rw [List.append_assoc, List.take_append_of_le_length (by omega), List.take_of_length_le (by omega)]
  have a2 : (st ++ ma ++ st).drop (100 - L) = st := by
    have e : 100 - L = (st ++ ma).length := by simp only [List.length_append]; omega
    rw [e, List.drop_left]
  have b2 : (ot ++ mb ++ ot).drop (100 - L) = ot := by
    have e : 100 - L = (ot ++ mb).length := by simp only [List.length_append]; omega
    rw [e, List.drop_left]
  generalize hA : st ++ ma ++ st = A at *
  generalize hB : ot ++ mb ++ ot = B at *
  have hlt : (A.take n).length = n := by rw [List.length_take]; omega
  by_cases c1 : n ≤ 100 - L
  · have hend : t.drop (100 - L) = ot := by
      rw [ht, List.drop_append, List.drop_eq_nil_of_le (by omega), List.nil_append, hlt, List.drop_drop, show n + (100 - L - n) = 100 - L from by omega, b2]
    rw [hend] at hok
    by_cases c2 : L ≤ n
    · have : t.take L = st := by rw [ht, List.take_append_of_le_length (by omega), List.take_take, Nat.min_eq_left c2, a1]
      exact absurd (this.symm.trans hok) hne
    · refine .inr ⟨hok, ?_⟩
      have e1 : A.take n = B.take n := by
        have h3 : (t.take L).take n = ot.take n := by rw [hok]
        rw [List.take_take, Nat.min_eq_left (by omega), ht, List.take_append_of_le_length (by omega), List.take_take, Nat.min_self] at h3
        rw [h3, ← b1, List.take_take, Nat.min_eq_left (by omega)]
      rw [ht, e1, List.take_append_drop]
  · have hst : t.take L = st := by rw [ht, List.take_append_of_le_length (by omega), List.take_take, Nat.min_eq_left (by omega), a1]
    refine .inl ⟨hst, ?_⟩
    rw [hst] at hok
    have e1 : B.drop n = A.drop n := by
      have h3 : (t.drop (100 - L)).drop (n - (100 - L)) = st.drop (n - (100 - L)) := by rw [← hok]
      rw [List.drop_drop, show 100 - L + (n - (100 - L)) = n from by omega, ht, List.drop_append, hlt, List.drop_eq_nil_of_le (by omega), List.nil_append, Nat.sub_self, List.drop_zero] at h3
      rw [h3, ← a2, List.drop_drop, show 100 - L + (n - (100 - L)) = n from by omega]
    rw [ht, e1, List.take_append_drop]

theorem size_list (s : ByteArray) : s.data.toList.length = s.size := Array.length_toList
theorem toList_data (s : ByteArray) : s.toList = s.data.toList := ByteArray.toList_eq s
theorem extract_list (s : ByteArray) (i j : Nat) : (s.extract i j).data.toList = (s.data.toList.take j).drop i := by
  rw [ByteArray.data_extract, Array.toList_extract, List.extract_eq_take_drop, List.drop_take]

/-- What the law asks of a torn sector T, on texts. -/
theorem stamp_facts (st ot a b T : ByteArray) (n : Nat) (h1 : 1 ≤ st.size) (h2 : st.size ≤ 16) (ho : ot.size = st.size) (hne : (st.toList == ot.toList) = false)
    (ha : a.size = 100) (hb : b.size = 100) (hma : ∃ m, a.data.toList = st.data.toList ++ m ++ st.data.toList) (hmb : ∃ m, b.data.toList = ot.data.toList ++ m ++ ot.data.toList)
    (hn : n ≤ 100) (hT : T = a.extract 0 n ++ b.extract n 100) (hok : ((T.extract 0 st.size).toList == (T.extract (100 - st.size) 100).toList) = true) :
    (((T.extract 0 st.size).toList == st.toList) = true ∧ (T.toList == a.toList) = true) ∨
    (((T.extract 0 st.size).toList == st.toList) = false ∧ ((T.extract 0 st.size).toList == ot.toList) = true ∧ (T.toList == b.toList) = true) := by
  obtain ⟨ma, hma⟩ := hma
  obtain ⟨mb, hmb⟩ := hmb
  have hTl : T.data.toList = (st.data.toList ++ ma ++ st.data.toList).take n ++ (ot.data.toList ++ mb ++ ot.data.toList).drop n := by
    have hb' : b.data.toList.take 100 = b.data.toList := List.take_of_length_le (by rw [size_list]; exact Nat.le_of_eq hb)
    rw [hT, ByteArray.data_append, Array.toList_append, extract_list, extract_list, List.drop_zero, hb', hma, hmb]
  have hTs : T.data.toList.length = 100 := by
    rw [hTl, ← hma, ← hmb, List.length_append, List.length_take, List.length_drop]
    rw [size_list, size_list, ha, hb]
    omega
  simp only [toList_data, beq_iff_eq, beq_eq_false_iff_ne, extract_list, List.drop_zero] at *
  rw [List.take_of_length_le (i := 100) (by omega)] at hok
  have hls : st.data.toList.length = st.size := size_list st
  have hlo : ot.data.toList.length = st.size := by rw [← ho]; exact size_list ot
  rcases stamp_law st.data.toList ot.data.toList ma mb st.size n hls hlo h1 h2 (by rw [← hma, size_list]; exact ha) (by rw [← hmb, size_list]; exact hb) hne hn T.data.toList hTl hok with ⟨e1, e2⟩ | ⟨e1, e2⟩
  · exact .inl ⟨e1, by rw [e2, hma]⟩
  · exact .inr ⟨by rw [e1]; exact fun h => hne h.symm, e1, by rw [e2, hmb]⟩

set_option maxHeartbeats 4000000 in
theorem FnStamp_walk (a : Option Addr) (len cap : Nat) (a2 : Option Addr) (len2 cap2 : Nat) (w : World) (hb : BytesAt w w.heap.size a len) (hb2 : BytesAt w w.heap.size a2 len2) :
    Calls Try.prog 7 #[.slice a len cap, .slice a2 len2 cap2] w fun e w' => e = .returned (.bool true) ∧ Below w.heap.size w w' := by
  by_cases hlen : 1048576 < len ∨ 1048576 < len2
  · have HL := Lib.hid hlen
    clear hlen
    go_enter Try.func7, Try.ntmps7
    go_wp2_with fail
    refine (b10Long_yes a a2 len len2 cap cap2 w HL.out).mono ?_
    rintro e w1 ⟨rfl, rfl⟩
    go_wp2_with fail
    go_ret
    exact ⟨rfl, Below.refl _ _⟩
  have l1 : len ≤ 1048576 := by omega
  have l2 : len2 ≤ 1048576 := by omega
  clear hlen
  go_enter Try.func7, Try.ntmps7
  go_wp2_with fail
  refine (b10Long_no a a2 len len2 cap cap2 w l1 l2).mono ?_
  rintro e w1 ⟨rfl, rfl⟩
  go_wp2_with fail
  refine (drawStamped_any a len cap w (by omega) hb).mono ?_
  rintro e w1 ⟨st, by1, n1, hst, hby, rfl, hw1⟩
  go_wp2_with fail
  refine (drawStamped_any a2 len2 cap2 w1 (by omega) ((hb2.below hw1).more hw1.size)).mono ?_
  rintro e w2 ⟨ot, by2, n2, hot, hby2, rfl, hw2⟩
  have hw2' := hw1.trans (hw2.mono hw1.size)
  clear hw1 hw2
  by_cases c0 : st.size = 0
  · go_wp2_with fail
    go_ret
    exact ⟨rfl, hw2'⟩
  have k0 : ((st.size : Int) == 0) = false := beq_eq_false_iff_ne.2 (by omega)
  by_cases c1 : st.size ≠ ot.size
  · have k1 : ((st.size : Int) != (ot.size : Int)) = true := bne_iff_ne.2 (by omega)
    go_wp2_with fail
    go_ret
    exact ⟨rfl, hw2'⟩
  have c1' : st.size = ot.size := by omega
  have k1 : ((st.size : Int) != (ot.size : Int)) = false := by simp; omega
  have HC1 := Lib.hid c1'
  clear c1 c1'
  by_cases c2 : 16 < st.size
  · go_wp2_with fail
    go_ret
    exact ⟨rfl, hw2'⟩
  by_cases c3 : (st.toList == ot.toList) = true
  · go_wp2_with fail
    go_ret
    exact ⟨rfl, hw2'⟩
  have c3' : (st.toList == ot.toList) = false := by simpa using c3
  clear c3
  go_wp2_with fail
  refine (stamped_core st by1 w2 (by omega) (by omega) hby).mono ?_
  rintro e w3 ⟨A, hA, hA2, rfl, hw3⟩
  have hw3' := hw2'.trans (hw3.mono hw2'.size)
  go_wp2_with fail
  refine (stamped_core ot by2 w3 (by have := HC1.out; omega) (by have := HC1.out; omega) hby2).mono ?_
  rintro e w4 ⟨B, hB, hB2, rfl, hw4⟩
  have hw4' := hw3'.trans (hw4.mono hw3'.size)
  clear hw2' hw3 hw3' hw4
  have HA2 := Lib.hid hA2
  have HB2 := Lib.hid hB2
  clear hA2 hB2
  go_wp2_with fail
  refine (b10At_any 40 101 a2 len2 cap2 w4 (by omega) (by omega) (by omega) (by omega) ((hb2.below hw4').more hw4'.size)).mono ?_
  rintro e w5 ⟨r, r0, r1, rfl, rfl⟩
  obtain ⟨n, rfl⟩ := Int.eq_ofNat_of_zero_le r0
  have hn : n ≤ 100 := by omega
  have b1 : (n : Int) ≤ 100 := by omega
  have bs : ∀ x y : ByteArray, x.size = 100 → y.size = 100 → (x.extract 0 n ++ y.extract n 100).size = 100 := by
    intro x y hx hy
    rw [ByteArray.size_append, ByteArray.size_extract, ByteArray.size_extract]
    omega
  obtain ⟨T, hT⟩ : ∃ T, T = A.extract 0 n ++ B.extract n 100 := ⟨_, rfl⟩
  have hTs : T.size = 100 := by rw [hT]; exact bs A B hA hB
  have HT := Lib.hid hT
  have hT' : A.extract 0 n ++ B.extract n 100 = T := hT.symm
  clear hT bs
  go_wp2_with fail
  go_quiet (fail)
  go_wp2_with fail
  refine (unstamped_core T st.size hTs (by omega) (by omega) _).mono ?_
  by_cases hok : ((T.extract 0 st.size).toList == (T.extract (100 - st.size) 100).toList) = true
  · have hf := stamp_facts st ot A B T n (by omega) (by omega) HC1.out.symm c3' hA hB HA2.out HB2.out hn HT.out hok
    have HOK := Lib.hid hok
    clear hok
    rintro e w6 ⟨hy, _, hw6⟩
    obtain ⟨t, rfl⟩ := hy HOK.out
    have hw6' := hw4'.trans ((below_drewN (Below.refl _ _) _).trans (hw6.mono hw4'.size))
    clear hy
    rcases hf with ⟨f1, f2⟩ | ⟨f1, f2, f3⟩
    · go_wp2_with fail
      go_ret
      exact ⟨rfl, hw6'⟩
    · go_wp2_with fail
      go_ret
      exact ⟨rfl, hw6'⟩
  · have hok' : ((T.extract 0 st.size).toList == (T.extract (100 - st.size) 100).toList) = false := by simpa using hok
    have HOK := Lib.hid hok'
    clear hok hok'
    rintro e w6 ⟨_, hy, hw6⟩
    obtain rfl := hy HOK.out
    have hw6' := hw4'.trans ((below_drewN (Below.refl _ _) _).trans (hw6.mono hw4'.size))
    clear hy
    go_wp2_with fail
    go_ret
    exact ⟨rfl, hw6'⟩
end Go.Proofs.Ytajchbafolgcoaa
