/- slices.Collect, slices.Sorted over slices.Values at strings; impl.distinct. -/
import Derived.Test.YtjbjgeekglpmlaaGreatDoorSorted
import Derived.Test.YtjbjgeekglpmlaaGreatDoorSortC
import Derived.Test.YtjbjgeekglpmlaaGreatDoorDistinctLaw
import Derived.Sort.OwnSorted
import Derived.Sort.Grow
import Derived.Lib.OwnBridge
namespace Go.Proofs.YtjbjgeekglpmlaaGreatDoor
open Go.RowKit Go.Shelf Go.Sort
set_option linter.unusedVariables false

/-- The texts as lists of bytes. -/
def lists (zs : List ByteArray) : List (List UInt8) := zs.map (·.data.toList)
theorem lists_length (zs : List ByteArray) : (lists zs).length = zs.length := by simp [lists]
theorem lists_enc (zs : List ByteArray) : (lists zs).map encStr = strCells zs := by
  unfold lists strCells
  rw [List.map_map]
  exact List.map_congr_left fun x _ => by simp [encStr]
theorem lists_nodup (zs : List ByteArray) : (lists zs).Nodup ↔ zs.Nodup := by
  unfold lists
  rw [List.nodup_iff_pairwise_ne, List.nodup_iff_pairwise_ne, List.pairwise_map]
  constructor
  · intro h
    exact h.imp fun hab e => hab (by rw [e])
  · intro h
    exact h.imp fun {a b} hab e => hab (by
      obtain ⟨⟨x⟩⟩ := a
      obtain ⟨⟨y⟩⟩ := b
      simpa using e)

set_option maxHeartbeats 1000000 in
theorem collect_in (F : Fence) (n : Nat) (h : F.fn 216) (h3 : F.fn 247) (h7 : F.fn 218) (hro : F.round = none) (hn : 4 ≤ n) (Bs : Nat) (a : Option Addr) (cap : Nat) (zs : List ByteArray) (hreach : zs.length ≤ 1048576) (w : World) (hBs : Bs < w.heap.size)
    (hcB : w.cell? ⟨Bs, 0, none⟩ = some (.slice a zs.length cap)) (hI : RowAt w w.heap.size a (strCells zs)) :
    CallsIn F n Tryz.prog 216 #[.func (.func 218) #[] #[.pointer (some ⟨Bs, 0, none⟩)]] w fun e W' => ∃ v, e = .returned v ∧ W'.ownsRow w.heap.size 9 1 v zs.length (strCells zs) ∧ Below w.heap.size w W' := by
  have h1 : 1 ≤ n := by omega
  refine callsIn_of_wp Tryz.func216 rfl h ?_ hro
  simp only [Tryz.ntmps216, List.size_toArray, List.length_cons, List.length_nil, Nat.reduceAdd, Nat.reduceSub, Array.replicate_succ, Array.replicate_zero, List.push_toArray, List.append_toArray, List.nil_append, List.cons_append]
  gi_wp2_with (gi_at_call 247; refine (appendSeq_in F (n - 1) h3 h7 hro (by omega) Bs a cap zs hreach _ hBs hcB hI).mono ?_; rintro e w' ⟨v, rfl, hrow, hb⟩)
  go_ret
  exact ⟨v, rfl, hrow, hb⟩

set_option maxRecDepth 100000 in
set_option maxHeartbeats 2000000 in
theorem sorted_in (n : Nat) (hn : 5 ≤ n) (Bs : Nat) (a : Option Addr) (cap : Nat) (zs : List ByteArray) (hreach : zs.length ≤ 1048576) (w : World) (hBs : Bs < w.heap.size)
    (hcB : w.cell? ⟨Bs, 0, none⟩ = some (.slice a zs.length cap)) (hI : RowAt w w.heap.size a (strCells zs)) :
    CallsIn Fence.wide n Tryz.prog 170 #[.func (.func 218) #[] #[.pointer (some ⟨Bs, 0, none⟩)]] w fun e W' => ∃ v, e = .returned v ∧
      W'.ownsRow w.heap.size 9 1 v zs.length (((lists zs).mergeSort fun x y => decide (x ≤ y)).map encStr) ∧ Below w.heap.size w W' := by
  have h1 : 1 ≤ n := by omega
  have hfC : Fence.wide.fn 216 := trivial
  have hfS : Fence.wide.fn 217 := trivial
  refine callsIn_of_wp Tryz.func170 rfl trivial ?_ rfl
  simp only [Tryz.ntmps170, List.size_toArray, List.length_cons, List.length_nil, Nat.reduceAdd, Nat.reduceSub, Array.replicate_succ, Array.replicate_zero, List.push_toArray, List.append_toArray, List.nil_append, List.cons_append]
  gi_wp2_with (gi_at_call 216; refine (collect_in Fence.wide (n - 1) trivial trivial trivial rfl (by omega) Bs a cap zs hreach _ hBs hcB hI).mono ?_; rintro e W ⟨v, rfl, hrow, hb⟩)
  rcases hrow.2 with ⟨rfl, hz⟩ | ⟨gb, cap', cur, rfl, hbase, hgb, r1, r2, r3, r4⟩
  · have hss : zs = [] := List.eq_nil_of_length_eq_zero hz
    subst hss
    gi_wp2_with (gi_at_call 217; refine (callsIn_wide.2 (Tryz.slices_Sort_string_none none 0 W)).mono ?_; rintro e w' ⟨rfl, rfl⟩)
    go_ret
    exact ⟨.slice none 0 0, rfl, by simpa [lists, strCells] using hrow, hb⟩
  · have hH : Holds encStr W gb 0 (lists zs).toArray := holds_of_block hgb (by rw [← lists_enc] at r4; simpa [lists] using r4)
    have hgl : gb < W.heap.size := (Array.getElem?_eq_some_iff.1 hgb).1
    have cS := callsIn_wide (n := n - 1) |>.2 (Tryz.slices_Sort_string gb 0 cap' (lists zs) W hH hgl (by rw [lists_length]; omega))
    rw [lists_length] at cS
    gi_wp2_with (gi_at_call 217; refine cS.mono ?_; rintro e w' ⟨rfl, nn, os, rfl⟩)
    go_ret
    have hso := ownsRow_sorted (n := nn) (os := os) (ss := lists zs) (ts := (lists zs).mergeSort fun x y => decide (x ≤ y)) (by rw [List.length_mergeSort]) hbase hgb (by rw [lists_length]; exact r1) r2 r3
    rw [lists_length] at hso
    exact ⟨_, rfl, hso, hb.grown (grownBy_sorted _) hb.size (fun j hj => by cases hj; exact hbase)⟩
set_option maxRecDepth 100000 in
set_option maxHeartbeats 2000000 in
/-- distinct says whether no two texts are the same. -/
theorem distinct_any (zs : List ByteArray) (a : Option Addr) (c : Nat) (r : Bool) (hr : decide zs.Nodup = r) (w : World) (hreach : zs.length ≤ 1048576) (hI : RowAt w w.heap.size a (strCells zs)) :
    Calls Tryz.prog 109 #[.slice a zs.length c] w fun e W' => e = .returned (.bool r) ∧ Below w.heap.size w W' := by
  refine (callsIn_wide (n := 8)).1 ?_
  have HI := Lib.hid hI
  have HR := Lib.hid hr
  clear hI hr
  have hlaw := Lib.hid (distinct_law (lists zs))
  have hfV : Fence.wide.fn 171 := trivial
  have hfS : Fence.wide.fn 170 := trivial
  have hfC : Fence.wide.fn 172 := trivial
  refine callsIn_of_wp Tryz.func109 rfl trivial ?_ rfl
  simp only [Tryz.ntmps109, List.size_toArray, List.length_cons, List.length_nil, Nat.reduceAdd, Nat.reduceSub, Array.replicate_succ, Array.replicate_zero, List.push_toArray, List.append_toArray, List.nil_append, List.cons_append]
  gi_wp2_with (first
    | (gi_at_call 171; refine (values_in Fence.wide 7 trivial rfl _ _ _ _).mono ?_; rintro e w' ⟨rfl, rfl⟩)
    | (gi_at_call 170; refine (sorted_in 7 (by omega) w.heap.size a c zs hreach _ (by simp) (by simp) ((HI.out.alloc (Nat.le_refl _) _).more (by simp))).mono ?_; rintro e W ⟨v, rfl, hrow, hb⟩))
  have hbw : Below w.heap.size w W := ((Below.refl _ w).alloc (Nat.le_refl _) _).trans (hb.mono (by simp))
  rcases hrow.2 with ⟨rfl, hz⟩ | ⟨gb, cap', cur, rfl, hbase, hgb, r1, r2, r3, r4⟩
  · have hss : zs = [] := List.eq_nil_of_length_eq_zero hz
    subst hss
    obtain rfl : r = true := by rw [← HR.out]; simp
    gi_wp2_with (gi_at_call 172; refine (callsIn_wide.2 (Tryz.slices_Compact_string_empty none 0 W)).mono ?_; rintro e w' ⟨rfl, rfl⟩)
    go_ret
    exact ⟨rfl, hbw⟩
  · obtain ⟨ts, hts⟩ : ∃ ts, ts = (lists zs).mergeSort fun x y => decide (x ≤ y) := ⟨_, rfl⟩
    rw [← hts] at hlaw r4
    have htl : ts.length = zs.length := by rw [hts, List.length_mergeSort, lists_length]
    have hH : Holds encStr W gb 0 ts.toArray := holds_of_block hgb (by rw [htl]; simpa using r4)
    have cC := callsIn_wide (n := 7) |>.2 (Tryz.slices_Compact_string gb 0 cap' ts W hH (by omega) (by omega))
    obtain ⟨m, hm⟩ : ∃ m, m = (Lib.compact ts).length := ⟨_, rfl⟩
    rw [htl, ← hm] at cC
    rw [← hm, lists_length] at hlaw
    have hml : m ≤ 1048576 := by have := Lib.compact_length_le ts; omega
    have hgl : w.heap.size ≤ gb := by simp at hbase; omega
    have q1 : ((m : Int) == (zs.length : Int)) = r := by
      rw [← HR.out]
      by_cases e : m = zs.length
      · rw [decide_eq_true ((lists_nodup zs).1 (hlaw.out.1 e))]
        simp [e]
      · rw [decide_eq_false (fun hnd => e (hlaw.out.2 ((lists_nodup zs).2 hnd)))]
        exact beq_eq_false_iff_ne.2 (by omega)
    clear hts hm hlaw hrow r4 hH
    gi_wp2_with (gi_at_call 172; refine cC.mono ?_; rintro e w' ⟨rfl, q, rfl⟩)
    go_ret
    exact ⟨rfl, Lib.below_putRow hbw hgl⟩
end Go.Proofs.YtjbjgeekglpmlaaGreatDoor
