/- QueryOk: the program's and the reference's answer alike. -/
import Derived.Test.YtfimopcklknekaaGreatDoorIdxF
import Derived.Test.YtfimopcklknekaaGreatDoorDistinct
import Derived.Test.YtfimopcklknekaaGreatDoorQAt
namespace Go.Proofs.YtfimopcklknekaaGreatDoor
open Go.RowKit
set_option linter.unusedVariables false

def badName (s : ByteArray) : Bool := !nameB s
def badCond (c : CondV) : Bool := !condB c
/-- The order that a query names, or none. -/
def orderB (q : QueryV) : Bool := nameB q.order || (decide (q.order.size = 0) && !q.desc)
/-- A right query. -/
def queryB (q : QueryV) : Bool := nameB q.table && (decide (q.cols.length ≤ 5) && (decide q.cols.Nodup && (decide (q.conds.length ≤ 3) && (inB q.limit 0 24 && (!q.cols.any badName && (!q.conds.any badCond && orderB q))))))

theorem isEmpty_size (s : ByteArray) : s.toList.isEmpty = decide (s.size = 0) := by
  rw [ByteArray.toList_eq, Bool.eq_iff_iff, List.isEmpty_iff_length_eq_zero, Array.length_toList, decide_eq_true_eq]
  exact Iff.rfl

theorem queryOk1_any (s : ByteArray) (w : World) (hs : s.size ≤ 9223372036854775807) :
    Calls Tryz.prog 31 #[.string s] w fun e w' => e = .returned (.bool (badName s)) ∧ Below w.heap.size w w' := by
  obtain ⟨r, hr⟩ : ∃ r, nameB s = r := ⟨_, rfl⟩
  have HR := Lib.hid (show badName s = !r by simp [badName, hr])
  have HC := Lib.hid hr
  clear hr
  go_enter Tryz.func31, Tryz.ntmps31
  go_wp2_with fail
  refine (nameOk_any s r HC.out w hs).mono ?_
  rintro e w1 ⟨rfl, rfl⟩
  go_wp2_with fail
  go_ret
  exact ⟨by rw [HR.out]; rfl, Below.refl _ _⟩
theorem queryOk2_any (c : CondV) (w : World) (h1 : c.1.size ≤ 9223372036854775807) (h2 : c.2.2.size ≤ 9223372036854775807) :
    Calls Tryz.prog 33 #[condAgg c] w fun e w' => e = .returned (.bool (badCond c)) ∧ Below w.heap.size w w' := by
  obtain ⟨r, hr⟩ : ∃ r, condB c = r := ⟨_, rfl⟩
  have HR := Lib.hid (show badCond c = !r by simp [badCond, hr])
  have HC := Lib.hid hr
  clear hr
  unfold condAgg
  have BW := Lib.hid (fun o => (Below.refl w.heap.size w).alloc (Nat.le_refl _) o)
  go_enter Tryz.func33, Tryz.ntmps33
  go_wp2_with fail
  refine (condOk_any c r HC.out _ h1 h2).mono ?_
  rintro e w1 ⟨rfl, hb1⟩
  have hbw := (BW.out _).trans (hb1.mono (by simp))
  clear hb1
  go_wp2_with fail
  go_ret
  exact ⟨by rw [HR.out]; rfl, hbw⟩

set_option maxHeartbeats 4000000 in
theorem queryOk_impl (q : QueryV) (r : Bool) (hr : queryB q = r) (v : Value) (w : World) (hq : QueryWf q) (h1 : q.cols.length ≤ 1048576) (hv : QAt w v q) :
    Calls Tryz.prog 15 #[v] w (ValPost (.bool r) w) := by
  obtain ⟨a1, c1, a2, c2, rfl, hr1, hr2, _⟩ := hv
  obtain ⟨t, cols, conds, o, d, l⟩ := q
  obtain ⟨s1, s2, s3, s4, s5, s6⟩ := hq
  simp only [qAgg, queryB, orderB] at *
  have H1 := Lib.hid hr1
  have H2 := Lib.hid hr2
  have HR := Lib.hid hr
  have S5 := Lib.hid s5
  have S6 := Lib.hid s6
  clear hr1 hr2 hr s5 s6
  have BW := Lib.hid (fun o => (Below.refl w.heap.size w).alloc (Nat.le_refl _) o)
  obtain ⟨r1, hr1⟩ : ∃ r, nameB t = r := ⟨_, rfl⟩
  have R1 := Lib.hid hr1
  clear hr1
  go_enter Tryz.func15, Tryz.ntmps15
  go_wp2_with fail
  refine (nameOk_any t r1 R1.out _ s1).mono ?_
  rintro e w1 ⟨rfl, rfl⟩
  cases r1
  · go_wp2_with fail
    go_ret
    exact ⟨by rw [← HR.out, R1.out]; rfl, BW.out _⟩
  by_cases k2 : 5 < cols.length
  · have q2 : decide ((5 : Int) < (cols.length : Int)) = true := decide_eq_true (by omega)
    have F := Lib.hid (show decide (cols.length ≤ 5) = false from decide_eq_false (by omega))
    clear k2
    go_wp2_with fail
    go_ret
    exact ⟨by rw [← HR.out, R1.out, F.out]; rfl, BW.out _⟩
  have q2 : decide ((5 : Int) < (cols.length : Int)) = false := decide_eq_false (by omega)
  have R2 := Lib.hid (show decide (cols.length ≤ 5) = true from decide_eq_true (by omega))
  obtain ⟨r3, hr3⟩ : ∃ r, decide cols.Nodup = r := ⟨_, rfl⟩
  have R3 := Lib.hid hr3
  clear hr3
  go_wp2_with fail
  refine (distinct_any cols a1 c1 r3 R3.out _ h1 ((H1.out.below (BW.out _)).more (by simp))).mono ?_
  rintro e w1 ⟨rfl, hb1⟩
  have bA := (Blk.new w 30 #[.string t, .slice a1 cols.length c1, .slice a2 conds.length c2, .string o, .bool d, .int .i64 l]).below hb1 (by simp)
  have hbw := (BW.out _).trans (hb1.mono (by simp))
  have zz := bA.lt
  obtain ⟨x0, x1, x2, x3, x4, x5⟩ := bA.c6
  clear hb1
  cases r3
  · go_wp2_with fail
    go_ret
    exact ⟨by rw [← HR.out, R1.out, R2.out, R3.out]; rfl, hbw⟩
  by_cases k4 : 3 < conds.length
  · have q4 : decide ((3 : Int) < (conds.length : Int)) = true := decide_eq_true (by omega)
    have F := Lib.hid (show decide (conds.length ≤ 3) = false from decide_eq_false (by omega))
    clear k4
    go_wp2_with fail
    go_ret
    exact ⟨by rw [← HR.out, R1.out, R2.out, R3.out, F.out]; rfl, hbw⟩
  have q4 : decide ((3 : Int) < (conds.length : Int)) = false := decide_eq_false (by omega)
  have R4 := Lib.hid (show decide (conds.length ≤ 3) = true from decide_eq_true (by omega))
  obtain ⟨r5, hr5⟩ : ∃ r, inB l 0 24 = r := ⟨_, rfl⟩
  have R5 := Lib.hid hr5
  clear hr5
  go_wp2_with fail
  refine (within_any l 0 24 r5 R5.out _).mono ?_
  rintro e w2 ⟨rfl, rfl⟩
  cases r5
  · go_wp2_with fail
    go_ret
    exact ⟨by rw [← HR.out, R1.out, R2.out, R3.out, R4.out, R5.out]; rfl, hbw⟩
  obtain ⟨r6, hr6⟩ : ∃ r, cols.any badName = r := ⟨_, rfl⟩
  have R6 := Lib.hid hr6
  clear hr6
  go_wp2_with fail
  refine (contfS 31 #[] (enters_of Tryz.func31 (by kernel_rfl) rfl) badName r6 cols R6.out a1 c1 w1 s3 ((H1.out.below hbw).more hbw.size) (fun x hx W hW => queryOk1_any x W (S5.out x hx))).mono ?_
  rintro e w2 ⟨rfl, hb2⟩
  have bA2 := bA.below hb2 zz
  have hbw2 := hbw.trans (hb2.mono hbw.size)
  have zz2 := bA2.lt
  clear x0 x1 x2 x3 x4 x5
  obtain ⟨x0, x1, x2, x3, x4, x5⟩ := bA2.c6
  clear hb2
  cases r6
  rotate_left
  · go_wp2_with fail
    go_ret
    exact ⟨by rw [← HR.out, R1.out, R2.out, R3.out, R4.out, R5.out, R6.out]; rfl, hbw2⟩
  obtain ⟨r7, hr7⟩ : ∃ r, conds.any badCond = r := ⟨_, rfl⟩
  have R7 := Lib.hid hr7
  clear hr7
  go_wp2_with fail
  refine (contfC 33 #[] (enters_of Tryz.func33 (by kernel_rfl) rfl) badCond r7 conds R7.out a2 c2 w2 s4 ((H2.out.below hbw2).more hbw2.size) (fun x hx W hW => queryOk2_any x W (S6.out x hx).1 (S6.out x hx).2)).mono ?_
  rintro e w3 ⟨rfl, hb3⟩
  have bA3 := bA2.below hb3 zz2
  have hbw3 := hbw2.trans (hb3.mono hbw2.size)
  clear x0 x1 x2 x3 x4 x5
  obtain ⟨x0, x1, x2, x3, x4, x5⟩ := bA3.c6
  clear hb3 bA bA2 bA3
  cases r7
  rotate_left
  · go_wp2_with fail
    go_ret
    exact ⟨by rw [← HR.out, R1.out, R2.out, R3.out, R4.out, R5.out, R6.out, R7.out]; rfl, hbw3⟩
  obtain ⟨r8, hr8⟩ : ∃ r, nameB o = r := ⟨_, rfl⟩
  have R8 := Lib.hid hr8
  clear hr8
  go_wp2_with fail
  refine (nameOk_any o r8 R8.out _ s2).mono ?_
  rintro e w4 ⟨rfl, rfl⟩
  cases r8
  rotate_left
  · go_wp2_with fail
    go_ret
    exact ⟨by rw [← HR.out, R1.out, R2.out, R3.out, R4.out, R5.out, R6.out, R7.out, R8.out]; rfl, hbw3⟩
  by_cases k9 : o.size = 0
  · have q9 : o.toList.isEmpty = true := by rw [isEmpty_size]; exact decide_eq_true k9
    have R9 := Lib.hid (decide_eq_true k9)
    have q9' : o.toList = [] := List.isEmpty_iff.1 q9
    clear k9
    go_wp2_with fail
    go_ret
    exact ⟨by rw [← HR.out, R1.out, R2.out, R3.out, R4.out, R5.out, R6.out, R7.out, R8.out, R9.out]; rfl, hbw3⟩
  · have q9 : o.toList.isEmpty = false := by rw [isEmpty_size]; exact decide_eq_false k9
    have R9 := Lib.hid (decide_eq_false k9)
    clear k9
    go_wp2_with fail
    go_ret
    exact ⟨by rw [← HR.out, R1.out, R2.out, R3.out, R4.out, R5.out, R6.out, R7.out, R8.out, R9.out]; rfl, hbw3⟩

theorem nodup_take_succ (xs : List ByteArray) (k : Nat) (h : k < xs.length) (h1 : (xs.take k).Nodup) (h2 : xs[k] ∉ xs.take k) : (xs.take (k + 1)).Nodup := by
  rw [List.take_succ_eq_append_getElem h, List.nodup_append]
  refine ⟨h1, by simp, fun a ha b hb => ?_⟩
  rw [List.mem_singleton] at hb
  subst hb
  intro e
  subst e
  exact h2 ha
theorem not_nodup_of (xs : List ByteArray) (k : Nat) (h : k < xs.length) (h2 : xs[k] ∈ xs.take k) : ¬ xs.Nodup := by
  intro hn
  have h3 : (xs.take (k + 1)).Nodup := hn.sublist (List.take_sublist _ _)
  rw [List.take_succ_eq_append_getElem h, List.nodup_append] at h3
  exact h3.2.2 _ h2 xs[k] (by simp) rfl
theorem name_empty (s : ByteArray) (h : s.size = 0) : nameB s = false := by unfold nameB; rw [h]; rfl

set_option maxHeartbeats 8000000 in
theorem queryOk_spec (q : QueryV) (r : Bool) (hr : queryB q = r) (v : Value) (w : World) (hq : QueryWf q) (h1 : q.cols.length ≤ 1048576) (hv : QAt w v q) :
    Calls Tryz.prog 11 #[v] w (ValPost (.bool r) w) := by
  obtain ⟨a1, c1, a2, c2, rfl, hr1, hr2, hcap, _⟩ := hv
  have hord : (q.order.size = 0 → (orderB q = !q.desc)) ∧ (¬ q.order.size = 0 → orderB q = nameB q.order) := by
    constructor
    · intro h; unfold orderB; rw [name_empty _ h, decide_eq_true h]; rfl
    · intro h; unfold orderB; rw [decide_eq_false h]; simp
  have hrr : (nameB q.table && (decide (q.cols.length ≤ 5) && (decide q.cols.Nodup && (decide (q.conds.length ≤ 3) && (inB q.limit 0 24 && (!q.cols.any badName && (!q.conds.any badCond && orderB q))))))) = r := hr
  obtain ⟨ob, hob⟩ : ∃ ob, orderB q = ob := ⟨_, rfl⟩
  rw [hob] at hord hrr
  clear hr hob
  obtain ⟨t, cols, conds, o, d, l⟩ := q
  obtain ⟨s1, s2, s3, s4, s5, s6⟩ := hq
  simp only [qAgg] at *
  have HO := Lib.hid hord
  have H1 := Lib.hid hr1
  have H2 := Lib.hid hr2
  have HR := Lib.hid hrr
  have S5 := Lib.hid s5
  have S6 := Lib.hid s6
  clear hr1 hr2 hrr s5 s6 hord
  obtain ⟨r1, hr1⟩ : ∃ r, nameB t = r := ⟨_, rfl⟩
  have R1 := Lib.hid hr1
  clear hr1
  go_enter Tryz.func11, Tryz.ntmps11
  go_wp2_with fail
  obtain ⟨W0, hW0⟩ : ∃ W0, W0 = w.alloc (.cells #[.string t, .slice a1 cols.length c1, .slice a2 conds.length c2, .string o, .bool d, .int .i64 l] 30) := ⟨_, rfl⟩
  have bA : Blk W0 w.heap.size 30 #[.string t, .slice a1 cols.length c1, .slice a2 conds.length c2, .string o, .bool d, .int .i64 l] := by rw [hW0]; exact Blk.new _ _ _
  have hbW : Below w.heap.size w W0 := by rw [hW0]; exact (Below.refl _ _).alloc (Nat.le_refl _) _
  have z0 : W0.heap.size = w.heap.size + 1 := by rw [hW0]; simp
  rw [← hW0]
  clear hW0
  obtain ⟨x0, x1, x2, x3, x4, x5⟩ := bA.c6
  refine (nameOkS_any t r1 R1.out _ s1).mono ?_
  rintro e w1 ⟨rfl, rfl⟩
  cases r1
  · go_wp2_with fail
    go_ret
    exact ⟨by rw [← HR.out, R1.out]; rfl, hbW⟩
  by_cases k2 : 5 < cols.length
  · have q2 : decide ((5 : Int) < (cols.length : Int)) = true := decide_eq_true (by omega)
    have F := Lib.hid (show decide (cols.length ≤ 5) = false from decide_eq_false (by omega))
    clear k2
    go_wp2_with fail
    go_ret
    exact ⟨by rw [← HR.out, F.out]; simp, hbW⟩
  have q2 : decide ((5 : Int) < (cols.length : Int)) = false := decide_eq_false (by omega)
  have R2 := Lib.hid (show decide (cols.length ≤ 5) = true from decide_eq_true (by omega))
  by_cases k4 : 3 < conds.length
  · have q4 : decide ((3 : Int) < (conds.length : Int)) = true := decide_eq_true (by omega)
    have F := Lib.hid (show decide (conds.length ≤ 3) = false from decide_eq_false (by omega))
    clear k4
    go_wp2_with fail
    go_ret
    exact ⟨by rw [← HR.out, F.out]; simp, hbW⟩
  have q4 : decide ((3 : Int) < (conds.length : Int)) = false := decide_eq_false (by omega)
  have R4 := Lib.hid (show decide (conds.length ≤ 3) = true from decide_eq_true (by omega))
  obtain ⟨r5, hr5⟩ : ∃ r, inB l 0 24 = r := ⟨_, rfl⟩
  have R5 := Lib.hid hr5
  clear hr5
  have main : True := trivial
  by_cases k9 : o.size = 0
  · have q9 : o.toList.isEmpty = true := by rw [isEmpty_size]; exact decide_eq_true k9
    have q9' : o.toList = [] := List.isEmpty_iff.1 q9
    have R9 := Lib.hid (HO.out.1 k9)
    clear k9
    cases d
    · have OB := Lib.hid (show ob = true by rw [R9.out]; rfl)
      go_wp2_with fail
      refine (l00In_any l 0 24 r5 R5.out _).mono ?_
      rintro e w2 ⟨rfl, rfl⟩
      cases r5
      · go_wp2_with fail
        go_ret
        exact ⟨by rw [← HR.out, R5.out]; simp, hbW⟩
      go_wp2_with fail
      go_loopw [3] (fun i wr => ∃ (k m : Nat), k ≤ cols.length ∧ i = .int .i64 k ∧ Hid ((cols.take k).any badName = false) ∧ Hid ((cols.take k).Nodup) ∧ wr = W0.drewN m) (fun i _ => cols.length - (intOf i).toNat)
      case atStart => exact ⟨0, 0, by omega, rfl, Lib.hid (by simp), Lib.hid (by simp), rfl⟩
      case round =>
        obtain ⟨k, m, hk, rfl, hno, hnd, rfl⟩ := hrel
        by_cases hlt : k < cols.length
        · obtain ⟨b, off, rfl, hb, hc⟩ := (H1.out.below hbW).str (by omega)
          have hck := hc k hlt
          have hsz := S5.out _ (List.getElem_mem hlt)
          have hstep := Lib.hid (any_take_succ cols badName k hlt)
          have hfound := Lib.hid (any_of_at cols badName k hlt)
          have hns := Lib.hid (nodup_take_succ cols k hlt hnd.out)
          have hnn := Lib.hid (not_nodup_of cols k hlt)
          have j1 : (0 : Int) ≤ (k : Int) := by omega
          have j2 : (k : Int) < (cols.length : Int) := by omega
          have j3 : (k : Int) ≤ (c1 : Int) := by omega
          have hlen := Lib.hid (show k = (cols.take k).length by rw [List.length_take]; omega)
          have hrow := Lib.hid (show RowAt W0 w.heap.size (some ⟨b, off, none⟩) (strCells (cols.take k)) by rw [← strCells_take]; exact (H1.out.below hbW).take k)
          clear hc
          obtain ⟨y, hy⟩ : ∃ y, y = cols[k] := ⟨_, rfl⟩
          rw [← hy] at hck hsz hstep hfound hns hnn
          clear hy
          obtain ⟨rn, hrn⟩ : ∃ r, nameB y = r := ⟨_, rfl⟩
          have RN := Lib.hid hrn
          clear hrn
          cases rn
          · have F := Lib.hid (hfound.out (by unfold badName; rw [RN.out]; rfl))
            go_wp2_with fail
            go_quiet ((go_at_call 21; first | exact quiet_add_left (nameOkS_any y false RN.out _ hsz) | exact quiet_left (nameOkS_any y false RN.out _ hsz)))
            go_wp2_with fail
            go_ret
            exact ⟨by rw [← HR.out, F.out]; simp, below_drewN (below_drewN hbW _) _⟩
          · by_cases hmem : y ∈ cols.take k
            · have q5 : 0 ≤ Lib.idxOfS (cols.take k) y := (Lib.idxOfS_nonneg_iff _ _).2 hmem
              have F := Lib.hid (decide_eq_false (hnn.out hmem))
              clear hmem
              go_wp2_with fail
              go_quiet (first | (go_at_call 21; first | exact quiet_add_left (nameOkS_any y true RN.out _ hsz) | exact quiet_left (nameOkS_any y true RN.out _ hsz)) | (go_at_call 23; first | exact quiet_add_left (l29Place_any (cols.take k) y (some ⟨b, off, none⟩) k c1 w.heap.size hlen.out _ (by have := hlen.out; omega) hrow.out) | exact quiet_left (l29Place_any (cols.take k) y (some ⟨b, off, none⟩) k c1 w.heap.size hlen.out _ (by have := hlen.out; omega) hrow.out)))
              go_wp2_with fail
              go_ret
              exact ⟨by rw [← HR.out, F.out]; simp, below_drewN (below_drewN hbW _) _⟩
            · have q5 : ¬ 0 ≤ Lib.idxOfS (cols.take k) y := fun h => hmem ((Lib.idxOfS_nonneg_iff _ _).1 h)
              have q5' : decide (0 ≤ Lib.idxOfS (cols.take k) y) = false := decide_eq_false q5
              have N2 := Lib.hid (hns.out hmem)
              clear hmem q5
              go_wp2_with fail
              go_quiet (first | (go_at_call 21; first | exact quiet_add_left (nameOkS_any y true RN.out _ hsz) | exact quiet_left (nameOkS_any y true RN.out _ hsz)) | (go_at_call 23; first | exact quiet_add_left (l29Place_any (cols.take k) y (some ⟨b, off, none⟩) k c1 w.heap.size hlen.out _ (by have := hlen.out; omega) hrow.out) | exact quiet_left (l29Place_any (cols.take k) y (some ⟨b, off, none⟩) k c1 w.heap.size hlen.out _ (by have := hlen.out; omega) hrow.out)))
              go_wp2_with fail
              go_roundw
              case rel => exact ⟨k + 1, _, by omega, by go_num, Lib.hid (by rw [hstep.out, hno.out]; unfold badName; rw [RN.out]; rfl), N2, rfl⟩
              case measure => simp [intOf]; omega
        · have R6 := Lib.hid (show cols.any badName = false by have := hno.out; rwa [List.take_of_length_le (by omega)] at this)
          have R3 := Lib.hid (decide_eq_true (show cols.Nodup by have := hnd.out; rwa [List.take_of_length_le (by omega)] at this))
          have hbWm := below_drewN hbW m
          have bAm := bA.drewN m
          have zm : (W0.drewN m).heap.size = w.heap.size + 1 := z0
          go_wp2_with fail
          go_loopw [4] (fun i wr => ∃ (k : Nat), k ≤ conds.length ∧ i = .int .i64 k ∧ Hid ((conds.take k).any badCond = false) ∧ Blk wr w.heap.size 30 #[.string t, .slice a1 cols.length c1, .slice a2 conds.length c2, .string o, .bool false, .int .i64 l] ∧ Below w.heap.size w wr) (fun i _ => conds.length - (intOf i).toNat)
          case atStart => exact ⟨0, by omega, rfl, Lib.hid (by simp), bAm, hbWm⟩
          case round =>
            clear x0 x1 x2 x3 x4 x5 bA bAm hbW hbWm hno hnd
            obtain ⟨k, hk2, rfl, hno, bA, hbW⟩ := hrel
            obtain ⟨x0, x1, x2, x3, x4, x5⟩ := bA.c6
            by_cases hlt2 : k < conds.length
            · obtain ⟨b, off, rfl, hb, hc⟩ := (H2.out.below hbW).cond (by omega)
              obtain ⟨g1, g2, g3⟩ := hc k hlt2
              have hsz := S6.out _ (List.getElem_mem hlt2)
              have hstep := Lib.hid (any_take_succ conds badCond k hlt2)
              have hfound := Lib.hid (any_of_at conds badCond k hlt2)
              clear hc
              obtain ⟨⟨col, op, val⟩, hy⟩ : ∃ y, y = conds[k] := ⟨_, rfl⟩
              rw [← hy] at g1 g2 g3 hsz hstep hfound
              clear hy
              have zz := bA.lt
              have bB := bA.alloc (.cells #[.string col, .int .i64 op, .string val] 41)
              have hbB := hbW.alloc hbW.size (.cells #[.string col, .int .i64 op, .string val] 41)
              have HD := Lib.hid (show badCond (col, op, val) = !(nameB col && (inB op 1 4 && valueB val)) from rfl)
              obtain ⟨rn, hrn⟩ : ∃ r, nameB col = r := ⟨_, rfl⟩
              obtain ⟨ri, hri⟩ : ∃ r, inB op 1 4 = r := ⟨_, rfl⟩
              obtain ⟨rv, hrv⟩ : ∃ r, valueB val = r := ⟨_, rfl⟩
              rw [hrn, hri, hrv] at HD
              have RN := Lib.hid hrn
              have RI := Lib.hid hri
              have RV := Lib.hid hrv
              clear hrn hri hrv bA
              go_wp2_with fail
              refine (nameOkS_any col rn RN.out _ hsz.1).mono ?_
              rintro e w5 ⟨rfl, rfl⟩
              cases rn
              · have F := Lib.hid (hfound.out (by rw [HD.out]; rfl))
                go_wp2_with fail
                go_ret
                exact ⟨by rw [← HR.out, F.out]; simp, hbB⟩
              go_wp2_with fail
              refine (l00In_any op 1 4 ri RI.out _).mono ?_
              rintro e w5 ⟨rfl, rfl⟩
              cases ri
              · have F := Lib.hid (hfound.out (by rw [HD.out]; rfl))
                go_wp2_with fail
                go_ret
                exact ⟨by rw [← HR.out, F.out]; simp, hbB⟩
              go_wp2_with fail
              refine (l30Value_any val rv RV.out _ hsz.2).mono ?_
              rintro e w5 ⟨rfl, rfl⟩
              cases rv
              · have F := Lib.hid (hfound.out (by rw [HD.out]; rfl))
                go_wp2_with fail
                go_ret
                exact ⟨by rw [← HR.out, F.out]; simp, hbB⟩
              go_wp2_with fail
              go_roundw
              case rel => exact ⟨k + 1, by omega, by go_num, Lib.hid (by rw [hstep.out, hno.out, HD.out]; rfl), bB, hbB⟩
              case measure => simp [intOf]; omega
            · have R7 := Lib.hid (show conds.any badCond = false by have := hno.out; rwa [List.take_of_length_le (by omega)] at this)
              go_wp2_with fail
              go_ret
              exact ⟨by rw [← HR.out, R1.out, R2.out, R3.out, R4.out, R5.out, R6.out, R7.out, OB.out]; rfl, hbW⟩
    · go_wp2_with fail
      go_ret
      exact ⟨by rw [← HR.out, R9.out]; simp, hbW⟩
  · have q9 : o.toList.isEmpty = false := by rw [isEmpty_size]; exact decide_eq_false k9
    have R9 := Lib.hid (HO.out.2 k9)
    clear k9
    obtain ⟨r8, hr8⟩ : ∃ r, nameB o = r := ⟨_, rfl⟩
    have R8 := Lib.hid hr8
    clear hr8
    go_wp2_with fail
    refine (nameOkS_any o r8 R8.out _ s2).mono ?_
    rintro e w4 ⟨rfl, rfl⟩
    cases r8
    · go_wp2_with fail
      go_ret
      exact ⟨by rw [← HR.out, R9.out, R8.out]; simp, hbW⟩
    have OB := Lib.hid (show ob = true by rw [R9.out, R8.out])
    cases d
    · go_wp2_with fail
      refine (l00In_any l 0 24 r5 R5.out _).mono ?_
      rintro e w2 ⟨rfl, rfl⟩
      cases r5
      · go_wp2_with fail
        go_ret
        exact ⟨by rw [← HR.out, R5.out]; simp, hbW⟩
      go_wp2_with fail
      go_loopw [3] (fun i wr => ∃ (k m : Nat), k ≤ cols.length ∧ i = .int .i64 k ∧ Hid ((cols.take k).any badName = false) ∧ Hid ((cols.take k).Nodup) ∧ wr = W0.drewN m) (fun i _ => cols.length - (intOf i).toNat)
      case atStart => exact ⟨0, 0, by omega, rfl, Lib.hid (by simp), Lib.hid (by simp), rfl⟩
      case round =>
        obtain ⟨k, m, hk, rfl, hno, hnd, rfl⟩ := hrel
        by_cases hlt : k < cols.length
        · obtain ⟨b, off, rfl, hb, hc⟩ := (H1.out.below hbW).str (by omega)
          have hck := hc k hlt
          have hsz := S5.out _ (List.getElem_mem hlt)
          have hstep := Lib.hid (any_take_succ cols badName k hlt)
          have hfound := Lib.hid (any_of_at cols badName k hlt)
          have hns := Lib.hid (nodup_take_succ cols k hlt hnd.out)
          have hnn := Lib.hid (not_nodup_of cols k hlt)
          have j1 : (0 : Int) ≤ (k : Int) := by omega
          have j2 : (k : Int) < (cols.length : Int) := by omega
          have j3 : (k : Int) ≤ (c1 : Int) := by omega
          have hlen := Lib.hid (show k = (cols.take k).length by rw [List.length_take]; omega)
          have hrow := Lib.hid (show RowAt W0 w.heap.size (some ⟨b, off, none⟩) (strCells (cols.take k)) by rw [← strCells_take]; exact (H1.out.below hbW).take k)
          clear hc
          obtain ⟨y, hy⟩ : ∃ y, y = cols[k] := ⟨_, rfl⟩
          rw [← hy] at hck hsz hstep hfound hns hnn
          clear hy
          obtain ⟨rn, hrn⟩ : ∃ r, nameB y = r := ⟨_, rfl⟩
          have RN := Lib.hid hrn
          clear hrn
          cases rn
          · have F := Lib.hid (hfound.out (by unfold badName; rw [RN.out]; rfl))
            go_wp2_with fail
            go_quiet ((go_at_call 21; first | exact quiet_add_left (nameOkS_any y false RN.out _ hsz) | exact quiet_left (nameOkS_any y false RN.out _ hsz)))
            go_wp2_with fail
            go_ret
            exact ⟨by rw [← HR.out, F.out]; simp, below_drewN (below_drewN hbW _) _⟩
          · by_cases hmem : y ∈ cols.take k
            · have q5 : 0 ≤ Lib.idxOfS (cols.take k) y := (Lib.idxOfS_nonneg_iff _ _).2 hmem
              have F := Lib.hid (decide_eq_false (hnn.out hmem))
              clear hmem
              go_wp2_with fail
              go_quiet (first | (go_at_call 21; first | exact quiet_add_left (nameOkS_any y true RN.out _ hsz) | exact quiet_left (nameOkS_any y true RN.out _ hsz)) | (go_at_call 23; first | exact quiet_add_left (l29Place_any (cols.take k) y (some ⟨b, off, none⟩) k c1 w.heap.size hlen.out _ (by have := hlen.out; omega) hrow.out) | exact quiet_left (l29Place_any (cols.take k) y (some ⟨b, off, none⟩) k c1 w.heap.size hlen.out _ (by have := hlen.out; omega) hrow.out)))
              go_wp2_with fail
              go_ret
              exact ⟨by rw [← HR.out, F.out]; simp, below_drewN (below_drewN hbW _) _⟩
            · have q5 : ¬ 0 ≤ Lib.idxOfS (cols.take k) y := fun h => hmem ((Lib.idxOfS_nonneg_iff _ _).1 h)
              have q5' : decide (0 ≤ Lib.idxOfS (cols.take k) y) = false := decide_eq_false q5
              have N2 := Lib.hid (hns.out hmem)
              clear hmem q5
              go_wp2_with fail
              go_quiet (first | (go_at_call 21; first | exact quiet_add_left (nameOkS_any y true RN.out _ hsz) | exact quiet_left (nameOkS_any y true RN.out _ hsz)) | (go_at_call 23; first | exact quiet_add_left (l29Place_any (cols.take k) y (some ⟨b, off, none⟩) k c1 w.heap.size hlen.out _ (by have := hlen.out; omega) hrow.out) | exact quiet_left (l29Place_any (cols.take k) y (some ⟨b, off, none⟩) k c1 w.heap.size hlen.out _ (by have := hlen.out; omega) hrow.out)))
              go_wp2_with fail
              go_roundw
              case rel => exact ⟨k + 1, _, by omega, by go_num, Lib.hid (by rw [hstep.out, hno.out]; unfold badName; rw [RN.out]; rfl), N2, rfl⟩
              case measure => simp [intOf]; omega
        · have R6 := Lib.hid (show cols.any badName = false by have := hno.out; rwa [List.take_of_length_le (by omega)] at this)
          have R3 := Lib.hid (decide_eq_true (show cols.Nodup by have := hnd.out; rwa [List.take_of_length_le (by omega)] at this))
          have hbWm := below_drewN hbW m
          have bAm := bA.drewN m
          have zm : (W0.drewN m).heap.size = w.heap.size + 1 := z0
          go_wp2_with fail
          go_loopw [4] (fun i wr => ∃ (k : Nat), k ≤ conds.length ∧ i = .int .i64 k ∧ Hid ((conds.take k).any badCond = false) ∧ Blk wr w.heap.size 30 #[.string t, .slice a1 cols.length c1, .slice a2 conds.length c2, .string o, .bool false, .int .i64 l] ∧ Below w.heap.size w wr) (fun i _ => conds.length - (intOf i).toNat)
          case atStart => exact ⟨0, by omega, rfl, Lib.hid (by simp), bAm, hbWm⟩
          case round =>
            clear x0 x1 x2 x3 x4 x5 bA bAm hbW hbWm hno hnd
            obtain ⟨k, hk2, rfl, hno, bA, hbW⟩ := hrel
            obtain ⟨x0, x1, x2, x3, x4, x5⟩ := bA.c6
            by_cases hlt2 : k < conds.length
            · obtain ⟨b, off, rfl, hb, hc⟩ := (H2.out.below hbW).cond (by omega)
              obtain ⟨g1, g2, g3⟩ := hc k hlt2
              have hsz := S6.out _ (List.getElem_mem hlt2)
              have hstep := Lib.hid (any_take_succ conds badCond k hlt2)
              have hfound := Lib.hid (any_of_at conds badCond k hlt2)
              clear hc
              obtain ⟨⟨col, op, val⟩, hy⟩ : ∃ y, y = conds[k] := ⟨_, rfl⟩
              rw [← hy] at g1 g2 g3 hsz hstep hfound
              clear hy
              have zz := bA.lt
              have bB := bA.alloc (.cells #[.string col, .int .i64 op, .string val] 41)
              have hbB := hbW.alloc hbW.size (.cells #[.string col, .int .i64 op, .string val] 41)
              have HD := Lib.hid (show badCond (col, op, val) = !(nameB col && (inB op 1 4 && valueB val)) from rfl)
              obtain ⟨rn, hrn⟩ : ∃ r, nameB col = r := ⟨_, rfl⟩
              obtain ⟨ri, hri⟩ : ∃ r, inB op 1 4 = r := ⟨_, rfl⟩
              obtain ⟨rv, hrv⟩ : ∃ r, valueB val = r := ⟨_, rfl⟩
              rw [hrn, hri, hrv] at HD
              have RN := Lib.hid hrn
              have RI := Lib.hid hri
              have RV := Lib.hid hrv
              clear hrn hri hrv bA
              go_wp2_with fail
              refine (nameOkS_any col rn RN.out _ hsz.1).mono ?_
              rintro e w5 ⟨rfl, rfl⟩
              cases rn
              · have F := Lib.hid (hfound.out (by rw [HD.out]; rfl))
                go_wp2_with fail
                go_ret
                exact ⟨by rw [← HR.out, F.out]; simp, hbB⟩
              go_wp2_with fail
              refine (l00In_any op 1 4 ri RI.out _).mono ?_
              rintro e w5 ⟨rfl, rfl⟩
              cases ri
              · have F := Lib.hid (hfound.out (by rw [HD.out]; rfl))
                go_wp2_with fail
                go_ret
                exact ⟨by rw [← HR.out, F.out]; simp, hbB⟩
              go_wp2_with fail
              refine (l30Value_any val rv RV.out _ hsz.2).mono ?_
              rintro e w5 ⟨rfl, rfl⟩
              cases rv
              · have F := Lib.hid (hfound.out (by rw [HD.out]; rfl))
                go_wp2_with fail
                go_ret
                exact ⟨by rw [← HR.out, F.out]; simp, hbB⟩
              go_wp2_with fail
              go_roundw
              case rel => exact ⟨k + 1, by omega, by go_num, Lib.hid (by rw [hstep.out, hno.out, HD.out]; rfl), bB, hbB⟩
              case measure => simp [intOf]; omega
            · have R7 := Lib.hid (show conds.any badCond = false by have := hno.out; rwa [List.take_of_length_le (by omega)] at this)
              go_wp2_with fail
              go_ret
              exact ⟨by rw [← HR.out, R1.out, R2.out, R3.out, R4.out, R5.out, R6.out, R7.out, OB.out]; rfl, hbW⟩
    · go_wp2_with fail
      refine (l00In_any l 0 24 r5 R5.out _).mono ?_
      rintro e w2 ⟨rfl, rfl⟩
      cases r5
      · go_wp2_with fail
        go_ret
        exact ⟨by rw [← HR.out, R5.out]; simp, hbW⟩
      go_wp2_with fail
      go_loopw [3] (fun i wr => ∃ (k m : Nat), k ≤ cols.length ∧ i = .int .i64 k ∧ Hid ((cols.take k).any badName = false) ∧ Hid ((cols.take k).Nodup) ∧ wr = W0.drewN m) (fun i _ => cols.length - (intOf i).toNat)
      case atStart => exact ⟨0, 0, by omega, rfl, Lib.hid (by simp), Lib.hid (by simp), rfl⟩
      case round =>
        obtain ⟨k, m, hk, rfl, hno, hnd, rfl⟩ := hrel
        by_cases hlt : k < cols.length
        · obtain ⟨b, off, rfl, hb, hc⟩ := (H1.out.below hbW).str (by omega)
          have hck := hc k hlt
          have hsz := S5.out _ (List.getElem_mem hlt)
          have hstep := Lib.hid (any_take_succ cols badName k hlt)
          have hfound := Lib.hid (any_of_at cols badName k hlt)
          have hns := Lib.hid (nodup_take_succ cols k hlt hnd.out)
          have hnn := Lib.hid (not_nodup_of cols k hlt)
          have j1 : (0 : Int) ≤ (k : Int) := by omega
          have j2 : (k : Int) < (cols.length : Int) := by omega
          have j3 : (k : Int) ≤ (c1 : Int) := by omega
          have hlen := Lib.hid (show k = (cols.take k).length by rw [List.length_take]; omega)
          have hrow := Lib.hid (show RowAt W0 w.heap.size (some ⟨b, off, none⟩) (strCells (cols.take k)) by rw [← strCells_take]; exact (H1.out.below hbW).take k)
          clear hc
          obtain ⟨y, hy⟩ : ∃ y, y = cols[k] := ⟨_, rfl⟩
          rw [← hy] at hck hsz hstep hfound hns hnn
          clear hy
          obtain ⟨rn, hrn⟩ : ∃ r, nameB y = r := ⟨_, rfl⟩
          have RN := Lib.hid hrn
          clear hrn
          cases rn
          · have F := Lib.hid (hfound.out (by unfold badName; rw [RN.out]; rfl))
            go_wp2_with fail
            go_quiet ((go_at_call 21; first | exact quiet_add_left (nameOkS_any y false RN.out _ hsz) | exact quiet_left (nameOkS_any y false RN.out _ hsz)))
            go_wp2_with fail
            go_ret
            exact ⟨by rw [← HR.out, F.out]; simp, below_drewN (below_drewN hbW _) _⟩
          · by_cases hmem : y ∈ cols.take k
            · have q5 : 0 ≤ Lib.idxOfS (cols.take k) y := (Lib.idxOfS_nonneg_iff _ _).2 hmem
              have F := Lib.hid (decide_eq_false (hnn.out hmem))
              clear hmem
              go_wp2_with fail
              go_quiet (first | (go_at_call 21; first | exact quiet_add_left (nameOkS_any y true RN.out _ hsz) | exact quiet_left (nameOkS_any y true RN.out _ hsz)) | (go_at_call 23; first | exact quiet_add_left (l29Place_any (cols.take k) y (some ⟨b, off, none⟩) k c1 w.heap.size hlen.out _ (by have := hlen.out; omega) hrow.out) | exact quiet_left (l29Place_any (cols.take k) y (some ⟨b, off, none⟩) k c1 w.heap.size hlen.out _ (by have := hlen.out; omega) hrow.out)))
              go_wp2_with fail
              go_ret
              exact ⟨by rw [← HR.out, F.out]; simp, below_drewN (below_drewN hbW _) _⟩
            · have q5 : ¬ 0 ≤ Lib.idxOfS (cols.take k) y := fun h => hmem ((Lib.idxOfS_nonneg_iff _ _).1 h)
              have q5' : decide (0 ≤ Lib.idxOfS (cols.take k) y) = false := decide_eq_false q5
              have N2 := Lib.hid (hns.out hmem)
              clear hmem q5
              go_wp2_with fail
              go_quiet (first | (go_at_call 21; first | exact quiet_add_left (nameOkS_any y true RN.out _ hsz) | exact quiet_left (nameOkS_any y true RN.out _ hsz)) | (go_at_call 23; first | exact quiet_add_left (l29Place_any (cols.take k) y (some ⟨b, off, none⟩) k c1 w.heap.size hlen.out _ (by have := hlen.out; omega) hrow.out) | exact quiet_left (l29Place_any (cols.take k) y (some ⟨b, off, none⟩) k c1 w.heap.size hlen.out _ (by have := hlen.out; omega) hrow.out)))
              go_wp2_with fail
              go_roundw
              case rel => exact ⟨k + 1, _, by omega, by go_num, Lib.hid (by rw [hstep.out, hno.out]; unfold badName; rw [RN.out]; rfl), N2, rfl⟩
              case measure => simp [intOf]; omega
        · have R6 := Lib.hid (show cols.any badName = false by have := hno.out; rwa [List.take_of_length_le (by omega)] at this)
          have R3 := Lib.hid (decide_eq_true (show cols.Nodup by have := hnd.out; rwa [List.take_of_length_le (by omega)] at this))
          have hbWm := below_drewN hbW m
          have bAm := bA.drewN m
          have zm : (W0.drewN m).heap.size = w.heap.size + 1 := z0
          go_wp2_with fail
          go_loopw [4] (fun i wr => ∃ (k : Nat), k ≤ conds.length ∧ i = .int .i64 k ∧ Hid ((conds.take k).any badCond = false) ∧ Blk wr w.heap.size 30 #[.string t, .slice a1 cols.length c1, .slice a2 conds.length c2, .string o, .bool true, .int .i64 l] ∧ Below w.heap.size w wr) (fun i _ => conds.length - (intOf i).toNat)
          case atStart => exact ⟨0, by omega, rfl, Lib.hid (by simp), bAm, hbWm⟩
          case round =>
            clear x0 x1 x2 x3 x4 x5 bA bAm hbW hbWm hno hnd
            obtain ⟨k, hk2, rfl, hno, bA, hbW⟩ := hrel
            obtain ⟨x0, x1, x2, x3, x4, x5⟩ := bA.c6
            by_cases hlt2 : k < conds.length
            · obtain ⟨b, off, rfl, hb, hc⟩ := (H2.out.below hbW).cond (by omega)
              obtain ⟨g1, g2, g3⟩ := hc k hlt2
              have hsz := S6.out _ (List.getElem_mem hlt2)
              have hstep := Lib.hid (any_take_succ conds badCond k hlt2)
              have hfound := Lib.hid (any_of_at conds badCond k hlt2)
              clear hc
              obtain ⟨⟨col, op, val⟩, hy⟩ : ∃ y, y = conds[k] := ⟨_, rfl⟩
              rw [← hy] at g1 g2 g3 hsz hstep hfound
              clear hy
              have zz := bA.lt
              have bB := bA.alloc (.cells #[.string col, .int .i64 op, .string val] 41)
              have hbB := hbW.alloc hbW.size (.cells #[.string col, .int .i64 op, .string val] 41)
              have HD := Lib.hid (show badCond (col, op, val) = !(nameB col && (inB op 1 4 && valueB val)) from rfl)
              obtain ⟨rn, hrn⟩ : ∃ r, nameB col = r := ⟨_, rfl⟩
              obtain ⟨ri, hri⟩ : ∃ r, inB op 1 4 = r := ⟨_, rfl⟩
              obtain ⟨rv, hrv⟩ : ∃ r, valueB val = r := ⟨_, rfl⟩
              rw [hrn, hri, hrv] at HD
              have RN := Lib.hid hrn
              have RI := Lib.hid hri
              have RV := Lib.hid hrv
              clear hrn hri hrv bA
              go_wp2_with fail
              refine (nameOkS_any col rn RN.out _ hsz.1).mono ?_
              rintro e w5 ⟨rfl, rfl⟩
              cases rn
              · have F := Lib.hid (hfound.out (by rw [HD.out]; rfl))
                go_wp2_with fail
                go_ret
                exact ⟨by rw [← HR.out, F.out]; simp, hbB⟩
              go_wp2_with fail
              refine (l00In_any op 1 4 ri RI.out _).mono ?_
              rintro e w5 ⟨rfl, rfl⟩
              cases ri
              · have F := Lib.hid (hfound.out (by rw [HD.out]; rfl))
                go_wp2_with fail
                go_ret
                exact ⟨by rw [← HR.out, F.out]; simp, hbB⟩
              go_wp2_with fail
              refine (l30Value_any val rv RV.out _ hsz.2).mono ?_
              rintro e w5 ⟨rfl, rfl⟩
              cases rv
              · have F := Lib.hid (hfound.out (by rw [HD.out]; rfl))
                go_wp2_with fail
                go_ret
                exact ⟨by rw [← HR.out, F.out]; simp, hbB⟩
              go_wp2_with fail
              go_roundw
              case rel => exact ⟨k + 1, by omega, by go_num, Lib.hid (by rw [hstep.out, hno.out, HD.out]; rfl), bB, hbB⟩
              case measure => simp [intOf]; omega
            · have R7 := Lib.hid (show conds.any badCond = false by have := hno.out; rwa [List.take_of_length_le (by omega)] at this)
              go_wp2_with fail
              go_ret
              exact ⟨by rw [← HR.out, R1.out, R2.out, R3.out, R4.out, R5.out, R6.out, R7.out, OB.out]; rfl, hbW⟩
end Go.Proofs.YtfimopcklknekaaGreatDoor
