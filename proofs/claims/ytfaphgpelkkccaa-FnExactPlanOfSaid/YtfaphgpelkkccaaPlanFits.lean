/- PlanFits: the program's and the reference's answer alike. (Written by wip/gen/plan.py.) -/
import Derived.Test.YtfaphgpelkkccaaFits
namespace Go.Proofs.Ytfaphgpelkkccaa
open Go.RowKit
set_option linter.unusedVariables false

/-- A condition is among others. -/
def memC (x : CondV) (xs : List CondV) : Bool := xs.any fun y => decide (x = y)
theorem memC_t {x : CondV} {xs : List CondV} (h : x ∈ xs) : memC x xs = true := List.any_eq_true.2 ⟨x, h, decide_eq_true rfl⟩
theorem memC_f {x : CondV} {xs : List CondV} (h : x ∉ xs) : memC x xs = false := by
  cases e : memC x xs
  · rfl
  · obtain ⟨y, hy, he⟩ := List.any_eq_true.1 e
    exact absurd hy (by rw [← of_decide_eq_true he]; exact h)
/-- A condition for the plan stands in the query. -/
def tailB (q : QueryV) (col val : ByteArray) : Bool := decide (¬ val.size = 0) && memC (col, (1 : Int), val) q.conds
def planB (b : TableV) (q : QueryV) (p : PlanV) : Bool :=
  if p.kind = 3 then decide (p.column.size = 0) && decide (p.value.size = 0)
  else if p.kind = 1 then decide (p.column = b.columns.getD 0 ByteArray.empty) && tailB q p.column p.value
  else if p.kind = 2 then Lib.containsS b.indexes p.column && tailB q p.column p.value
  else false
def planFitsB (b : TableV) (q : QueryV) (p : PlanV) : Bool := fitsB b q && planB b q p

theorem fits_cols {b : TableV} {q : QueryV} (h : fitsB b q = true) : 0 < b.columns.length := by
  unfold fitsB tableB inB at h
  simp only [Bool.and_eq_true, decide_eq_true_eq] at h
  omega
theorem isE (s : ByteArray) (h : s.size = 0) : s.toList.isEmpty = true ∧ s.toList = [] := by
  have : s.toList.isEmpty = true := by rw [isEmpty_size]; exact decide_eq_true h
  exact ⟨this, List.isEmpty_iff.1 this⟩
theorem isN (s : ByteArray) (h : ¬ s.size = 0) : s.toList.isEmpty = false := by rw [isEmpty_size]; exact decide_eq_false h

theorem eqlC (a b : CondV) (r : Bool) (hr : decide (a = b) = r) (w : World) : (binOp .eql 58 (condAgg a) (condAgg b)).run Try.prog w = .ok (.bool r) w := by
  have h := neq_cond a b r hr w
  have h2 := eqlIn_cond a b r hr w
  simp only [binOp, condAgg] at *
  simp [Op.equal, Op.maxDepth, h2]
set_option maxHeartbeats 1000000 in
theorem indexC_any (xs : List CondV) (x : CondV) (a : Option Addr) (c : Nat) (w : World) (hn : xs.length ≤ 9223372036854775807) (hr : RowAt w w.heap.size a (condCells xs)) :
    Calls Try.prog 68 #[.slice a xs.length c, condAgg x] w (IdxPost (memC x xs) w) := by
  have HR := Lib.hid hr
  have hbW : ∀ o, Below w.heap.size w (w.alloc o) := fun o => (Below.refl _ _).alloc (Nat.le_refl _) _
  have HB := Lib.hid hbW
  clear hr hbW
  unfold condAgg
  go_enter Try.func68, Try.ntmps68
  go_wp2_with fail
  go_loopw [8] (fun i wr => ∃ k m : Nat, k ≤ xs.length ∧ i = .int .i64 k ∧ Hid (x ∉ xs.take k) ∧ wr = (w.alloc (.cells #[.string x.1, .int .i64 x.2.1, .string x.2.2] 58)).drewN m) (fun i _ => xs.length - (intOf i).toNat)
  case atStart => exact ⟨0, 0, by omega, rfl, Lib.hid (by simp), rfl⟩
  case round =>
    obtain ⟨k, m, hk, rfl, hno, rfl⟩ := hrel
    by_cases hlt : k < xs.length
    · obtain ⟨b, off, rfl, hb, hc⟩ := (HR.out.below (HB.out (.cells #[.string x.1, .int .i64 x.2.1, .string x.2.2] 58))).cond (by omega)
      obtain ⟨g1, g2, g3⟩ := hc k hlt
      have hmem := Lib.hid (List.getElem_mem hlt)
      have htk := Lib.hid (List.take_succ_eq_append_getElem hlt)
      clear hc
      obtain ⟨y, hy⟩ : ∃ y, y = xs[k] := ⟨_, rfl⟩
      rw [← hy] at g1 g2 g3 hmem htk
      clear hy
      by_cases hq : x = y
      · have n1 := eqlC x y true (by simpa using hq)
        have n2 := eqlIn_cond x y true (by simpa using hq)
        have HQ := Lib.hid (memC_t (show x ∈ xs by rw [hq]; exact hmem.out))
        clear hq
        unfold condAgg at n1
        have j1 : (0 : Int) ≤ (k : Int) := by omega
        have j2 : (k : Int) < (xs.length : Int) := by omega
        go_wp2_with fail
        go_quiet (fail)
        go_wp2_with fail
        go_ret
        exact ⟨(k : Int), by rw [HQ.out]; simp, rfl, below_drewN (below_drewN (HB.out _) _) _⟩
      · have n1 := eqlC x y false (by simpa using hq)
        have n2 := eqlIn_cond x y false (by simpa using hq)
        have HQ := Lib.hid (show x ∉ xs.take (k + 1) by rw [htk.out, List.mem_append]; rintro (h | h); exact hno.out h; rw [List.mem_singleton] at h; exact hq h)
        clear hq
        unfold condAgg at n1
        have j1 : (0 : Int) ≤ (k : Int) := by omega
        have j2 : (k : Int) < (xs.length : Int) := by omega
        go_wp2_with fail
        go_quiet (fail)
        go_wp2_with fail
        go_roundw
        case rel => exact ⟨k + 1, _, by omega, by go_num, HQ, rfl⟩
        case measure => simp [intOf]; omega
    · have HQ := Lib.hid (memC_f (show x ∉ xs by have := hno.out; rwa [List.take_of_length_le (by omega)] at this))
      go_wp2_with fail
      go_ret
      exact ⟨-1, by rw [HQ.out]; simp, rfl, below_drewN (HB.out _) _⟩
theorem containsC_any (xs : List CondV) (x : CondV) (r : Bool) (hx : memC x xs = r) (a : Option Addr) (c : Nat) (w : World) (hn : xs.length ≤ 9223372036854775807) (hr : RowAt w w.heap.size a (condCells xs)) :
    Calls Try.prog 49 #[.slice a xs.length c, condAgg x] w (ValPost (.bool r) w) := by
  have HR := Lib.hid hr
  have HX := Lib.hid hx
  have HB := Lib.hid (show ∀ o, Below w.heap.size w (w.alloc o) from fun o => (Below.refl _ _).alloc (Nat.le_refl _) _)
  clear hr hx
  have hag := Lib.hid (show condAgg x = .agg #[.string x.1, .int .i64 x.2.1, .string x.2.2] from rfl)
  unfold condAgg
  go_enter Try.func49, Try.ntmps49
  go_wp2_with fail
  refine (indexC_any xs x a c _ hn ((HR.out.below (HB.out _)).more (by simp))).mono ?_
  rw [HX.out]
  rintro e w1 ⟨q, hq, rfl, hb1⟩
  have HQ := Lib.hid hq
  have hbw := (HB.out _).trans (hb1.mono (by simp))
  clear hq hb1
  go_wp2_with fail
  go_ret
  exact ⟨by rw [← HQ.out]; rfl, hbw⟩
set_option maxRecDepth 100000 in
set_option maxHeartbeats 8000000 in
theorem planFits_impl (b : TableV) (q : QueryV) (p : PlanV) (r : Bool) (hr : planFitsB b q p = r) (vb vq vp : Value) (w : World) (hwb : TableWf b) (hwq : QueryWf q) (hnb : tableNeed b ≤ 1048576) (hnq : queryNeed q ≤ 1048576) (atb : TableAt w vb b) (atq : QAt w vq q) (atp : PlanAt w vp p) :
    Calls Try.prog 23 #[vb, vq, vp] w (ValPost (.bool r) w) := by
  obtain ⟨rf, hrf⟩ : ∃ rf, fitsB b q = rf := ⟨_, rfl⟩
  have NEC := Lib.hid (fits_cols (b := b) (q := q))
  unfold planFitsB at hr
  rw [hrf] at hr NEC
  have RF := Lib.hid hrf
  have HR := Lib.hid hr
  clear hrf hr
  have lq2 := small_conds hnq
  have lb2 : b.columns.length ≤ 1048576 := by unfold tableNeed at hnb; exact strs_small (by omega)
  have lb3 : b.indexes.length ≤ 1048576 := by unfold tableNeed at hnb; exact strs_small (by omega)
  have AB := Lib.hid (fun W (hb : Below w.heap.size w W) => atb.below tableE_good hb)
  have AQ := Lib.hid (fun W (hb : Below w.heap.size w W) => atq.below hb)
  have HWB := Lib.hid hwb
  have HWQ := Lib.hid hwq
  have HNB := Lib.hid hnb
  have HNQ := Lib.hid hnq
  obtain ⟨cs, rfl, v2, v3, rfl, A2, A3⟩ := atb
  obtain ⟨a2, c2, rfl, hcap2, hr2⟩ := strsE_o A2
  obtain ⟨a3, c3, rfl, hcap3, hr3⟩ := strsE_o A3
  obtain ⟨p1, d1, p2, d2, rfl, hq1, hq2, _⟩ := atq
  obtain ⟨cs, rfl, rfl⟩ := atp
  obtain ⟨kind, col, val⟩ := p
  simp only [qAgg] at *
  have H2 := Lib.hid hr2
  have H3 := Lib.hid hr3
  have Q2 := Lib.hid hq2
  clear hr2 hr3 A2 A3 hq1 hq2 hwb hwq hnb hnq
  go_enter Try.func23, Try.ntmps23
  go_wp2_with fail
  obtain ⟨W0, hW0⟩ : ∃ W0, W0 = ((w.alloc (.cells #[.string b.name, .string b.global, .slice a2 b.columns.length c2, .slice a3 b.indexes.length c3] 38)).alloc (.cells #[.string q.table, .slice p1 q.cols.length d1, .slice p2 q.conds.length d2, .string q.order, .bool q.desc, .int .i64 q.limit] 30)).alloc (.cells #[.int .i64 kind, .string col, .string val] 43) := ⟨_, rfl⟩
  have bA : Blk W0 w.heap.size 38 #[.string b.name, .string b.global, .slice a2 b.columns.length c2, .slice a3 b.indexes.length c3] := by rw [hW0]; exact ((Blk.new _ _ _).alloc _).alloc _
  have bB : Blk W0 (w.heap.size + 1) 30 #[.string q.table, .slice p1 q.cols.length d1, .slice p2 q.conds.length d2, .string q.order, .bool q.desc, .int .i64 q.limit] := by rw [hW0]; exact (by simpa using Blk.new (w.alloc (.cells #[.string b.name, .string b.global, .slice a2 b.columns.length c2, .slice a3 b.indexes.length c3] 38)) 30 #[.string q.table, .slice p1 q.cols.length d1, .slice p2 q.conds.length d2, .string q.order, .bool q.desc, .int .i64 q.limit] : Blk _ (w.heap.size + 1) _ _).alloc _
  have bC : Blk W0 (w.heap.size + 1 + 1) 43 #[.int .i64 kind, .string col, .string val] := by rw [hW0]; simpa using Blk.new ((w.alloc (.cells #[.string b.name, .string b.global, .slice a2 b.columns.length c2, .slice a3 b.indexes.length c3] 38)).alloc (.cells #[.string q.table, .slice p1 q.cols.length d1, .slice p2 q.conds.length d2, .string q.order, .bool q.desc, .int .i64 q.limit] 30)) 43 #[.int .i64 kind, .string col, .string val]
  have hbW : Below w.heap.size w W0 := by rw [hW0]; exact (((Below.refl _ _).alloc (Nat.le_refl _) _).alloc (by simp) _).alloc (by simp; omega) _
  have z : w.heap.size + 3 ≤ W0.heap.size := by rw [hW0]; simp
  rw [← hW0]
  clear hW0
  refine (queryFits_impl b q rf RF.out _ _ W0 HWB.out HWQ.out HNB.out HNQ.out (AB.out _ hbW) (AQ.out _ hbW)).mono ?_
  rintro e w1 ⟨rfl, hc⟩
  replace bA := bA.below hc (by omega)
  replace bB := bB.below hc (by omega)
  replace bC := bC.below hc (by omega)
  replace hbW := hbW.trans (hc.mono hbW.size)
  replace z := Nat.le_trans z hc.size
  clear hc
  obtain ⟨x0, x1, x2, x3⟩ := bA.c4
  obtain ⟨y0, y1, y2, y3, y4, y5⟩ := bB.c6
  obtain ⟨u0, u1, u2⟩ := bC.c3
  cases rf
  · go_wp2_with fail
    go_ret
    exact ⟨by rw [← HR.out]; rfl, hbW⟩
  have HB := Lib.hid (show r = planB b q ⟨kind, col, val⟩ by rw [← HR.out]; rfl)
  have NE := Lib.hid (NEC.out rfl)
  clear HR NEC
  by_cases k3 : kind = 3
  · have t3 : (kind == 3) = true := beq_iff_eq.2 k3
    have HP := Lib.hid (show r = (decide (col.size = 0) && decide (val.size = 0)) by rw [HB.out]; unfold planB; rw [if_pos k3])
    clear k3
    by_cases kc : col.size = 0
    · obtain ⟨q7, q7'⟩ := isE col kc
      by_cases kv : val.size = 0
      · obtain ⟨q8, q8'⟩ := isE val kv
        have T := Lib.hid (show r = true by rw [HP.out, decide_eq_true kc, decide_eq_true kv]; rfl)
        clear kc kv
        go_wp2_with fail
        go_ret
        exact ⟨by rw [T.out]; rfl, hbW⟩
      · have q8 := isN val kv
        have T := Lib.hid (show r = false by rw [HP.out, decide_eq_false kv]; simp)
        clear kc kv
        go_wp2_with fail
        go_ret
        exact ⟨by rw [T.out]; rfl, hbW⟩
    · have q7 := isN col kc
      have T := Lib.hid (show r = false by rw [HP.out, decide_eq_false kc]; rfl)
      clear kc
      go_wp2_with fail
      go_ret
      exact ⟨by rw [T.out]; rfl, hbW⟩
  have t3 : (kind == 3) = false := beq_eq_false_iff_ne.2 k3
  by_cases k1 : kind = 1
  · have t1 : (kind == 1) = true := beq_iff_eq.2 k1
    have HP := Lib.hid (show r = (decide (col = b.columns.getD 0 ByteArray.empty) && tailB q col val) by rw [HB.out]; unfold planB; rw [if_neg k3, if_pos k1])
    clear k1 k3
    obtain ⟨tb, toff, rfl, htb, hg⟩ := (H2.out.below hbW).getD NE.out
    have g0 := hg 0 NE.out
    rw [Nat.add_zero] at g0
    have ne : (0 : Int) < (b.columns.length : Int) := by have := NE.out; omega
    have ne' := NE.out
    clear hg
    obtain ⟨hd, hhd⟩ : ∃ hd, hd = b.columns.getD 0 ByteArray.empty := ⟨_, rfl⟩
    rw [← hhd] at g0 HP
    clear hhd
    by_cases kc : col = hd
    · have t4 : (col.toList == hd.toList) = true := by rw [toList_beq]; exact decide_eq_true kc
      have HT := Lib.hid (show r = tailB q col val by rw [HP.out, decide_eq_true kc]; rfl)
      clear kc
      go_wp2_with fail
      go_quiet (fail)
      by_cases kv : val.size = 0
      · obtain ⟨q8, q8'⟩ := isE val kv
        have T := Lib.hid (show r = false by rw [HT.out]; unfold tailB; rw [decide_eq_false (by simpa using kv)]; rfl)
        clear kv
        go_wp2_with fail
        go_ret
        exact ⟨by rw [T.out]; rfl, (below_drewN hbW _)⟩
      have q8 := isN val kv
      obtain ⟨rc, hrc⟩ : ∃ rc, memC (col, (1 : Int), val) q.conds = rc := ⟨_, rfl⟩
      have T := Lib.hid (show r = rc by rw [HT.out]; unfold tailB; rw [hrc, decide_eq_true kv]; rfl)
      have RC := Lib.hid hrc
      clear kv hrc
      go_wp2_with fail
      refine (containsC_any q.conds (col, 1, val) rc RC.out p2 d2 _ (by omega) ((Q2.out.below (below_drewN hbW _)).more (by first | exact hbW.size | simpa using hbW.size))).mono ?_
      rintro e w5 ⟨rfl, hc⟩
      go_wp2_with fail
      go_ret
      exact ⟨by rw [T.out]; rfl, ((below_drewN hbW _)).trans (hc.mono (by first | exact hbW.size | simpa using hbW.size))⟩
    · have t4 : (col.toList == hd.toList) = false := by rw [toList_beq]; exact decide_eq_false kc
      have T := Lib.hid (show r = false by rw [HP.out, decide_eq_false kc]; rfl)
      clear kc
      go_wp2_with fail
      go_quiet (fail)
      go_wp2_with fail
      go_ret
      exact ⟨by rw [T.out]; rfl, below_drewN hbW _⟩
  have t1 : (kind == 1) = false := beq_eq_false_iff_ne.2 k1
  by_cases k2 : kind = 2
  · have t2 : (kind == 2) = true := beq_iff_eq.2 k2
    have HP := Lib.hid (show r = (Lib.containsS b.indexes col && tailB q col val) by rw [HB.out]; unfold planB; rw [if_neg k3, if_neg k1, if_pos k2])
    clear k1 k2 k3
    go_wp2_with fail
    obtain ⟨rc0, hrc0⟩ : ∃ rc, Lib.containsS b.indexes col = rc := ⟨_, rfl⟩
    have cc := containsS_any b.indexes col a3 c3 w.heap.size w1 (by omega) (H3.out.below hbW)
    rw [hrc0] at cc HP
    clear hrc0
    refine cc.mono ?_
    rintro e w4 ⟨rfl, rfl⟩
    cases rc0
    · go_wp2_with fail
      go_ret
      exact ⟨by rw [HP.out]; rfl, hbW⟩
    have HT := Lib.hid (show r = tailB q col val by rw [HP.out]; rfl)
    by_cases kv : val.size = 0
    · obtain ⟨q8, q8'⟩ := isE val kv
      have T := Lib.hid (show r = false by rw [HT.out]; unfold tailB; rw [decide_eq_false (by simpa using kv)]; rfl)
      clear kv
      go_wp2_with fail
      go_ret
      exact ⟨by rw [T.out]; rfl, hbW⟩
    have q8 := isN val kv
    obtain ⟨rc, hrc⟩ : ∃ rc, memC (col, (1 : Int), val) q.conds = rc := ⟨_, rfl⟩
    have T := Lib.hid (show r = rc by rw [HT.out]; unfold tailB; rw [hrc, decide_eq_true kv]; rfl)
    have RC := Lib.hid hrc
    clear kv hrc
    go_wp2_with fail
    refine (containsC_any q.conds (col, 1, val) rc RC.out p2 d2 _ (by omega) ((Q2.out.below hbW).more (by first | exact hbW.size | simpa using hbW.size))).mono ?_
    rintro e w5 ⟨rfl, hc⟩
    go_wp2_with fail
    go_ret
    exact ⟨by rw [T.out]; rfl, (hbW).trans (hc.mono (by first | exact hbW.size | simpa using hbW.size))⟩
  · have t2 : (kind == 2) = false := beq_eq_false_iff_ne.2 k2
    have T := Lib.hid (show r = false by rw [HB.out]; unfold planB; rw [if_neg k3, if_neg k1, if_neg k2])
    clear k1 k2 k3
    go_wp2_with fail
    go_ret
    exact ⟨by rw [T.out]; rfl, hbW⟩
end Go.Proofs.Ytfaphgpelkkccaa
