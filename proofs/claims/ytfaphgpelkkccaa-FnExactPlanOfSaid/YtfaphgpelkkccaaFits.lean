/- QueryFits: the program's and the reference's answer alike. -/
import Derived.Test.YtfaphgpelkkccaaTOk
import Derived.Test.YtfaphgpelkkccaaApp
namespace Go.Proofs.Ytfaphgpelkkccaa
open Go.RowKit
set_option linter.unusedVariables false

/-- The columns that a query names. -/
def named (q : QueryV) : List ByteArray := q.cols ++ q.conds.map (·.1) ++ (if q.order.size = 0 then [] else [q.order])
def badCol (cols : List ByteArray) (s : ByteArray) : Bool := !Lib.containsS cols s
/-- The query fits the table. -/
def fitsB (b : TableV) (q : QueryV) : Bool := tableB b && (queryB q && (decide (q.table = b.name) && !(named q).any (badCol b.columns)))

theorem badCol_eq (cols : List ByteArray) (s : ByteArray) : badCol cols s = decide (Lib.idxOfS cols s < 0) := by
  unfold badCol Lib.containsS
  by_cases h : 0 ≤ Lib.idxOfS cols s
  · rw [decide_eq_true h, decide_eq_false (by omega)]; rfl
  · rw [decide_eq_false h, decide_eq_true (by omega)]; rfl
theorem named_any (q : QueryV) (p : ByteArray → Bool) : (named q).any p = (q.cols.any p || (q.conds.any (fun c => p c.1) || (if q.order.size = 0 then false else p q.order))) := by
  unfold named
  rw [List.any_append, List.any_append, List.any_map]
  by_cases h : q.order.size = 0
  · simp [h, Function.comp_def]
  · simp [h, Function.comp_def, Bool.or_assoc]

theorem queryFits1_any (s : ByteArray) (b : Nat) (v0 v1 v3 : Value) (a : Option Addr) (c : Nat) (cols : List ByteArray) (w : World) (hn : cols.length ≤ 9223372036854775807)
    (hb : Blk w b 38 #[v0, v1, .slice a cols.length c, v3]) (hr : RowAt w w.heap.size a (strCells cols)) :
    Calls Try.prog 45 #[.string s, .pointer (some ⟨b, 0, none⟩)] w fun e w' => e = .returned (.bool (badCol cols s)) ∧ Below w.heap.size w w' := by
  have HR := Lib.hid hr
  have HC := Lib.hid (show badCol cols s = !Lib.containsS cols s from rfl)
  obtain ⟨x0, x1, x2, x3⟩ := hb.c4
  clear hr hb
  go_enter Try.func45, Try.ntmps45
  go_wp2_with fail
  refine (containsS_any cols s a c _ w hn HR.out).mono ?_
  rintro e w1 ⟨rfl, rfl⟩
  go_wp2_with fail
  go_ret
  exact ⟨by rw [HC.out]; rfl, Below.refl _ _⟩

theorem cloneS_any (xs : List ByteArray) (a : Option Addr) (c : Nat) (w : World) (hn : xs.length ≤ 1048576) (hr : RowAt w w.heap.size a (strCells xs)) :
    Calls Try.prog 44 #[.slice a xs.length c] w fun e w' => ∃ v, e = .returned v ∧ w'.ownsRow w.heap.size 9 1 v xs.length (strCells xs) ∧ Below w.heap.size w w' := by
  by_cases h : 0 < xs.length
  · obtain ⟨b, off, rfl, _, hc⟩ := hr.getD h
    have := Try.slices_Clone_string b off xs.length c xs w (Nat.le_refl _) (by omega) hc
    rw [List.take_length] at this
    exact this.mono fun e w' ⟨v, h1, h2, _, h3⟩ => ⟨v, h1, h2, h3⟩
  · obtain rfl : xs = [] := List.eq_nil_of_length_eq_zero (by omega)
    rcases a with _ | ad
    · refine (Try.slices_Clone_string_nil 0 c w).mono ?_
      rintro e w' ⟨rfl, rfl⟩
      exact ⟨_, rfl, ⟨rfl, .inl ⟨rfl, rfl⟩⟩, Below.refl _ _⟩
    · exact (Try.slices_Clone_string_zero ad c w).mono fun e w' ⟨v, h1, h2, _, h3⟩ => ⟨v, h1, h2, h3⟩

theorem own_mono {w : World} {base base' : Nat} {e : TypeId} {size : Nat} {v : Value} {n : Nat} {xs : List Value} (h : w.ownsRow base e size v n xs) (hb : base' ≤ base) : w.ownsRow base' e size v n xs :=
  ⟨h.1, h.2.imp id fun ⟨g, cap, cur, e1, h1, h2⟩ => ⟨g, cap, cur, e1, Nat.le_trans hb h1, h2⟩⟩

set_option maxRecDepth 100000 in
set_option maxHeartbeats 8000000 in
theorem queryFits_impl (b : TableV) (q : QueryV) (r : Bool) (hr : fitsB b q = r) (vb vq : Value) (w : World) (hwb : TableWf b) (hwq : QueryWf q) (hnb : tableNeed b ≤ 1048576) (hnq : queryNeed q ≤ 1048576) (atb : TableAt w vb b) (atq : QAt w vq q) :
    Calls Try.prog 15 #[vb, vq] w (ValPost (.bool r) w) := by
  obtain ⟨rt, hrt⟩ : ∃ r, tableB b = r := ⟨_, rfl⟩
  obtain ⟨rq, hrq⟩ : ∃ r, queryB q = r := ⟨_, rfl⟩
  have lq1 := small_cols hnq
  have lq2 := small_conds hnq
  have hr' : (tableB b && (queryB q && (decide (q.table = b.name) && !(named q).any (badCol b.columns)))) = r := hr
  rw [hrt, hrq] at hr'
  have HR := Lib.hid hr'
  have RT := Lib.hid hrt
  have RQ := Lib.hid hrq
  have HNB := Lib.hid hnb
  have HNQ := Lib.hid hnq
  have AB := Lib.hid (fun W (hb : Below w.heap.size w W) => atb.below tableE_good hb)
  have AQ := Lib.hid (fun W (hb : Below w.heap.size w W) => atq.below hb)
  have hnam := Lib.hid (show named q = q.cols ++ q.conds.map (·.1) ++ (if q.order.size = 0 then [] else [q.order]) from rfl)
  have hcl := Lib.hid (show b.columns.length ≤ 1048576 by unfold tableNeed at hnb; exact strs_small (by omega))
  obtain ⟨i0, hi0, hz0, hz1, hz2⟩ := info_parts string_info
  obtain ⟨cs, rfl, v2, v3, rfl, A2, A3⟩ := atb
  obtain ⟨a2, c2, rfl, hcap2, hr2⟩ := strsE_o A2
  obtain ⟨a3, c3, rfl, hcap3, hr3⟩ := strsE_o A3
  obtain ⟨p1, d1, p2, d2, rfl, hq1, hq2, _⟩ := atq
  simp only [qAgg] at *
  have H2 := Lib.hid hr2
  have Q1 := Lib.hid hq1
  have Q2 := Lib.hid hq2
  have HWB := Lib.hid hwb
  have HWQ := Lib.hid hwq
  clear hr hr' hrt hrq hnb hnq hr2 hr3 A2 A3 hq1 hq2 hwb hwq
  go_enter Try.func15, Try.ntmps15
  go_wp2_with fail
  obtain ⟨W0, hW0⟩ : ∃ W0, W0 = (w.alloc (.cells #[.string b.name, .string b.global, .slice a2 b.columns.length c2, .slice a3 b.indexes.length c3] 38)).alloc (.cells #[.string q.table, .slice p1 q.cols.length d1, .slice p2 q.conds.length d2, .string q.order, .bool q.desc, .int .i64 q.limit] 30) := ⟨_, rfl⟩
  have bA : Blk W0 w.heap.size 38 #[.string b.name, .string b.global, .slice a2 b.columns.length c2, .slice a3 b.indexes.length c3] := by rw [hW0]; exact (Blk.new _ _ _).alloc _
  have bB : Blk W0 (w.heap.size + 1) 30 #[.string q.table, .slice p1 q.cols.length d1, .slice p2 q.conds.length d2, .string q.order, .bool q.desc, .int .i64 q.limit] := by rw [hW0]; simpa using Blk.new (w.alloc (.cells #[.string b.name, .string b.global, .slice a2 b.columns.length c2, .slice a3 b.indexes.length c3] 38)) 30 #[.string q.table, .slice p1 q.cols.length d1, .slice p2 q.conds.length d2, .string q.order, .bool q.desc, .int .i64 q.limit]
  have hbW : Below w.heap.size w W0 := by rw [hW0]; exact ((Below.refl _ _).alloc (Nat.le_refl _) _).alloc (by simp) _
  have z : w.heap.size + 2 ≤ W0.heap.size := by rw [hW0]; simp
  rw [← hW0]
  clear hW0
  refine (tableOk_impl b rt RT.out _ W0 HWB.out HNB.out (AB.out _ hbW)).mono ?_
  rintro e w1 ⟨rfl, hc⟩
  replace bA := bA.below hc (by omega)
  replace bB := bB.below hc (by omega)
  replace hbW := hbW.trans (hc.mono hbW.size)
  replace z := Nat.le_trans z hc.size
  clear hc
  obtain ⟨x0, x1, x2, x3⟩ := bA.c4
  obtain ⟨y0, y1, y2, y3, y4, y5⟩ := bB.c6
  cases rt
  · go_wp2_with fail
    go_ret
    exact ⟨by rw [← HR.out]; rfl, hbW⟩
  go_wp2_with fail
  refine (queryOk_impl q rq RQ.out _ w1 HWQ.out lq1 (AQ.out _ hbW)).mono ?_
  rintro e w2 ⟨rfl, hc⟩
  replace bA := bA.below hc (by omega)
  replace bB := bB.below hc (by omega)
  replace hbW := hbW.trans (hc.mono hbW.size)
  replace z := Nat.le_trans z hc.size
  clear hc x0 x1 x2 x3 y0 y1 y2 y3 y4 y5
  obtain ⟨x0, x1, x2, x3⟩ := bA.c4
  obtain ⟨y0, y1, y2, y3, y4, y5⟩ := bB.c6
  cases rq
  · go_wp2_with fail
    go_ret
    exact ⟨by rw [← HR.out]; rfl, hbW⟩
  by_cases et : q.table = b.name
  rotate_left
  · have q1 : (q.table.toList == b.name.toList) = false := by rw [toList_beq]; exact decide_eq_false et
    have F := Lib.hid (decide_eq_false et)
    clear et
    go_wp2_with fail
    go_ret
    exact ⟨by rw [← HR.out, F.out]; rfl, hbW⟩
  have q1 : (q.table.toList == b.name.toList) = true := by rw [toList_beq]; exact decide_eq_true et
  have F := Lib.hid (decide_eq_true et)
  clear et
  have HF := Lib.hid (show r = !(named q).any (badCol b.columns) by rw [← HR.out, F.out]; rfl)
  go_wp2_with fail
  refine (cloneS_any q.cols p1 d1 w2 lq1 ((Q1.out.below hbW).more hbW.size)).mono ?_
  rintro e w3 ⟨v, rfl, hown, hc⟩
  replace bA := bA.below hc (by omega)
  replace bB := bB.below hc (by omega)
  replace hbW := hbW.trans (hc.mono hbW.size)
  have z2 := z
  replace z := Nat.le_trans z hc.size
  clear hc x0 x1 x2 x3 y0 y1 y2 y3 y4 y5 q1
  obtain ⟨x0, x1, x2, x3⟩ := bA.c4
  obtain ⟨y0, y1, y2, y3, y4, y5⟩ := bB.c6
  replace hown : w3.ownsRow (w.heap.size + 2) 9 1 v q.cols.length (strCells q.cols) := own_mono hown z2
  go_wp2_with fail
  go_loopw [5, 29] (fun v i wr => ∃ (k : Nat), k ≤ q.conds.length ∧ i = .int .i64 k ∧ wr.ownsRow (w.heap.size + 2) 9 1 v (q.cols.length + k) (strCells (q.cols ++ (q.conds.take k).map (·.1))) ∧
    Blk wr w.heap.size 38 #[.string b.name, .string b.global, .slice a2 b.columns.length c2, .slice a3 b.indexes.length c3] ∧ Blk wr (w.heap.size + 1) 30 #[.string q.table, .slice p1 q.cols.length d1, .slice p2 q.conds.length d2, .string q.order, .bool q.desc, .int .i64 q.limit] ∧ Below w.heap.size w wr ∧ w.heap.size + 2 ≤ wr.heap.size) (fun _ i _ => q.conds.length - (intOf i).toNat)
  case atStart => exact ⟨0, by omega, rfl, by simpa using hown, bA, bB, hbW, z⟩
  case round =>
    clear x0 x1 x2 x3 y0 y1 y2 y3 y4 y5 bA bB hbW z hown z2
    obtain ⟨k, hk, rfl, hown, bA, bB, hbW, z⟩ := hrel
    obtain ⟨x0, x1, x2, x3⟩ := bA.c4
    obtain ⟨y0, y1, y2, y3, y4, y5⟩ := bB.c6
    by_cases hlt : k < q.conds.length
    · obtain ⟨bb, off, rfl, hb, hc⟩ := (Q2.out.below hbW).cond (by omega)
      obtain ⟨g1, g2, g3⟩ := hc k hlt
      have htk := Lib.hid (show q.cols ++ (q.conds.take (k + 1)).map (·.1) = (q.cols ++ (q.conds.take k).map (·.1)) ++ [q.conds[k].1] by rw [List.take_succ_eq_append_getElem hlt, List.map_append, ← List.append_assoc]; rfl)
      clear hc
      obtain ⟨⟨col, op, val⟩, hy⟩ : ∃ y, y = q.conds[k] := ⟨_, rfl⟩
      rw [← hy] at g1 g2 g3 htk
      clear hy
      have hnw := Lib.hid (show ∀ (o : Obj) (j : Nat) (u : Value), ([.string col] : List Value)[j]? = some u → ((wr.alloc o).alloc (.cells #[.string col] 9)).cell? ((⟨wr.heap.size + 1, 0, none⟩ : Addr).add j) = some u from fun o => by have := cell_one_new (wr.alloc o) (.string col) 9; simpa using this)
      go_wp2_with (at_builtin; refine wpList_append_own _ rfl (.tmp 33) (.tmp 36) _ rfl (w.heap.size + 2) 9 i0 (.string ⟨#[]⟩) 1 16 Try.underlying22 hi0 hz0 hz1 hz2 rfl (by decide) _ _ _ rfl ((hown.alloc _).alloc _) ⟨wr.heap.size + 1, 0, none⟩ 1 1 [.string col] rfl rfl (hnw.out _) (by simp [Value.oneCell']) (by unfold maxLen; omega) (by omega) (by simp; omega) ?_; intro v' w4 hown' hgrow _)
      have hB2 : Below (w.heap.size + 2) wr w4 := (((Below.refl _ _).alloc z _).alloc (by simp; omega) _).grown hgrow (by simp; omega) (fun g hg => (hown.lt g hg).1)
      replace bA := bA.below hB2 (by omega)
      replace bB := bB.below hB2 (by omega)
      replace hbW := hbW.trans (hB2.mono (by omega))
      have z4 := Nat.le_trans z hB2.size
      clear hB2 hgrow hown x0 x1 x2 x3 y0 y1 y2 y3 y4 y5 g1 g2 g3
      go_wp2_with fail
      go_roundw
      case rel => exact ⟨k + 1, by omega, by go_num, by rw [htk.out]; simpa [strCells, Nat.add_assoc] using hown', bA, bB, hbW, z4⟩
      case measure => simp [intOf]; omega
    · obtain rfl : k = q.conds.length := by omega
      rw [List.take_length] at hown
      obtain ⟨rr, hrr⟩ : ∃ rr, (named q).any (badCol b.columns) = rr := ⟨_, rfl⟩
      have RR := Lib.hid hrr
      clear hrr
      have CL := Lib.hid (fun (W : World) (v : Value) (hown : W.ownsRow (w.heap.size + 2) 9 1 v (named q).length (strCells (named q))) (bA : Blk W w.heap.size 38 #[.string b.name, .string b.global, .slice a2 b.columns.length c2, .slice a3 b.indexes.length c3]) (hbW : Below w.heap.size w W) (hl : (named q).length ≤ 9223372036854775807) =>
        show Calls Try.prog 35 #[v, .func (.func 45) #[] #[.pointer (some ⟨w.heap.size, 0, none⟩)]] W (ValPost (.bool rr) W) from by
          obtain ⟨a, c, rfl, hra⟩ := RowAt.of_own hown
          exact contfS 45 #[.pointer (some ⟨w.heap.size, 0, none⟩)] (enters_of Try.func45 (by kernel_rfl) rfl) (badCol b.columns) rr (named q) RR.out a c W hl hra
            (fun x hx W' hW => queryFits1_any x w.heap.size _ _ _ a2 c2 b.columns W' (by have := hcl.out; omega) (bA.below hW bA.lt) ((H2.out.below (hbW.trans (hW.mono hbW.size))).more (Nat.le_trans hbW.size hW.size))))
      by_cases k9 : q.order.size = 0
      · have q9 : q.order.toList.isEmpty = true := by rw [isEmpty_size]; exact decide_eq_true k9
        have q9' : q.order.toList = [] := List.isEmpty_iff.1 q9
        have hN : named q = q.cols ++ q.conds.map (·.1) := by rw [hnam.out, if_pos k9]; simp
        have hNl : (named q).length = q.cols.length + q.conds.length := by rw [hN]; simp
        have CC := Lib.hid (CL.out wr _ (by rw [hNl, hN]; exact hown) bA hbW (by omega))
        have HBW := hbW
        clear k9 hN hNl
        go_wp2_with fail
        refine (CC.out).mono ?_
        rintro e w6 ⟨rfl, hc6⟩
        go_wp2_with fail
        go_ret
        exact ⟨by rw [HF.out, RR.out]; rfl, HBW.trans (hc6.mono HBW.size)⟩
      · have q9 : q.order.toList.isEmpty = false := by rw [isEmpty_size]; exact decide_eq_false k9
        have hN : named q = (q.cols ++ q.conds.map (·.1)) ++ [q.order] := by rw [hnam.out, if_neg k9]
        have hNl : (named q).length = q.cols.length + q.conds.length + 1 := by rw [hN]; simp; omega
        have HN := Lib.hid hN
        have HNL := Lib.hid hNl
        clear k9 hN hNl
        go_wp2_with (at_builtin; (refine wpList_append_own _ rfl (.tmp 42) (.tmp 45) _ rfl (w.heap.size + 2) 9 i0 (.string ⟨#[]⟩) 1 16 Try.underlying22 hi0 hz0 hz1 hz2 rfl (by decide) _ _ _ rfl (hown.alloc _) ⟨wr.heap.size, 0, none⟩ 1 1 [.string q.order] rfl rfl (cell_one_new _ _ _) (by simp [Value.oneCell']) (by unfold maxLen; omega) (by omega) (by simp; omega) ?_; intro v' w4 hown' hgrow _))
        have hB2 : Below (w.heap.size + 2) wr w4 := ((Below.refl _ _).alloc z _).grown hgrow (by simp; omega) (fun g hg => (hown.lt g hg).1)
        replace bA := bA.below hB2 (by omega)
        have HBW := hbW.trans (hB2.mono (by omega))
        have CC := Lib.hid (CL.out w4 v' (by rw [HNL.out, HN.out]; simpa [strCells] using hown') bA HBW (by have := HNL.out; omega))
        clear hB2 hgrow hown x0 x1 x2 x3 y0 y1 y2 y3 y4 y5
        go_wp2_with fail
        refine (CC.out).mono ?_
        rintro e w6 ⟨rfl, hc6⟩
        go_wp2_with fail
        go_ret
        exact ⟨by rw [HF.out, RR.out]; rfl, HBW.trans (hc6.mono HBW.size)⟩

set_option maxRecDepth 100000 in
set_option maxHeartbeats 8000000 in
theorem l30Fits_any (b : TableV) (q : QueryV) (r : Bool) (hr : fitsB b q = r) (vb vq : Value) (w : World) (hwb : TableWf b) (hwq : QueryWf q) (hnb : tableNeed b ≤ 1048576) (hnq : queryNeed q ≤ 1048576) (atb : TableAt w vb b) (atq : QAt w vq q) :
    Calls Try.prog 42 #[vb, vq] w (ValPost (.bool r) w) := by
  obtain ⟨rt, hrt⟩ : ∃ r, tableB b = r := ⟨_, rfl⟩
  obtain ⟨rq, hrq⟩ : ∃ r, queryB q = r := ⟨_, rfl⟩
  have lq1 := small_cols hnq
  have lq2 := small_conds hnq
  have hr' : (tableB b && (queryB q && (decide (q.table = b.name) && !(named q).any (badCol b.columns)))) = r := hr
  rw [hrt, hrq, named_any] at hr'
  have HR := Lib.hid hr'
  have RT := Lib.hid hrt
  have RQ := Lib.hid hrq
  have HNB := Lib.hid hnb
  have HNQ := Lib.hid hnq
  have AB := Lib.hid (fun W (hb : Below w.heap.size w W) => atb.below tableE_good hb)
  have AQ := Lib.hid (fun W (hb : Below w.heap.size w W) => atq.below hb)
  have hcl : b.columns.length ≤ 1048576 := by unfold tableNeed at hnb; exact strs_small (by omega)
  have hbc := Lib.hid (badCol_eq b.columns)
  obtain ⟨cs, rfl, v2, v3, rfl, A2, A3⟩ := atb
  obtain ⟨a2, c2, rfl, hcap2, hr2⟩ := strsE_o A2
  obtain ⟨a3, c3, rfl, hcap3, hr3⟩ := strsE_o A3
  obtain ⟨p1, d1, p2, d2, rfl, hq1, hq2, _⟩ := atq
  simp only [qAgg] at *
  have H2 := Lib.hid hr2
  have Q1 := Lib.hid hq1
  have Q2 := Lib.hid hq2
  have HWB := Lib.hid hwb
  have HWQ := Lib.hid hwq
  clear hr hr' hrt hrq hnb hnq hr2 hr3 A2 A3 hq1 hq2 hwb hwq
  go_enter Try.func42, Try.ntmps42
  go_wp2_with fail
  obtain ⟨W0, hW0⟩ : ∃ W0, W0 = (w.alloc (.cells #[.string b.name, .string b.global, .slice a2 b.columns.length c2, .slice a3 b.indexes.length c3] 38)).alloc (.cells #[.string q.table, .slice p1 q.cols.length d1, .slice p2 q.conds.length d2, .string q.order, .bool q.desc, .int .i64 q.limit] 30) := ⟨_, rfl⟩
  have bA : Blk W0 w.heap.size 38 #[.string b.name, .string b.global, .slice a2 b.columns.length c2, .slice a3 b.indexes.length c3] := by rw [hW0]; exact (Blk.new _ _ _).alloc _
  have bB : Blk W0 (w.heap.size + 1) 30 #[.string q.table, .slice p1 q.cols.length d1, .slice p2 q.conds.length d2, .string q.order, .bool q.desc, .int .i64 q.limit] := by rw [hW0]; simpa using Blk.new (w.alloc (.cells #[.string b.name, .string b.global, .slice a2 b.columns.length c2, .slice a3 b.indexes.length c3] 38)) 30 #[.string q.table, .slice p1 q.cols.length d1, .slice p2 q.conds.length d2, .string q.order, .bool q.desc, .int .i64 q.limit]
  have hbW : Below w.heap.size w W0 := by rw [hW0]; exact ((Below.refl _ _).alloc (Nat.le_refl _) _).alloc (by simp) _
  have z : w.heap.size + 2 ≤ W0.heap.size := by rw [hW0]; simp
  rw [← hW0]
  clear hW0
  refine (l29Ok_any b rt RT.out _ W0 HWB.out HNB.out (AB.out _ hbW)).mono ?_
  rintro e w1 ⟨rfl, hc⟩
  replace bA := bA.below hc (by omega)
  replace bB := bB.below hc (by omega)
  replace hbW := hbW.trans (hc.mono hbW.size)
  replace z := Nat.le_trans z hc.size
  clear hc
  obtain ⟨x0, x1, x2, x3⟩ := bA.c4
  obtain ⟨y0, y1, y2, y3, y4, y5⟩ := bB.c6
  cases rt
  · go_wp2_with fail
    go_ret
    exact ⟨by rw [← HR.out]; rfl, hbW⟩
  go_wp2_with fail
  refine (queryOk_spec q rq RQ.out _ w1 HWQ.out lq1 (AQ.out _ hbW)).mono ?_
  rintro e w2 ⟨rfl, hc⟩
  replace bA := bA.below hc (by omega)
  replace bB := bB.below hc (by omega)
  replace hbW := hbW.trans (hc.mono hbW.size)
  replace z := Nat.le_trans z hc.size
  clear hc x0 x1 x2 x3 y0 y1 y2 y3 y4 y5
  obtain ⟨x0, x1, x2, x3⟩ := bA.c4
  obtain ⟨y0, y1, y2, y3, y4, y5⟩ := bB.c6
  cases rq
  · go_wp2_with fail
    go_ret
    exact ⟨by rw [← HR.out]; rfl, hbW⟩
  by_cases et : q.table = b.name
  rotate_left
  · have q1 : (q.table.toList == b.name.toList) = false := by rw [toList_beq]; exact decide_eq_false et
    have F := Lib.hid (decide_eq_false et)
    clear et
    go_wp2_with fail
    go_ret
    exact ⟨by rw [← HR.out, F.out]; rfl, hbW⟩
  have q1 : (q.table.toList == b.name.toList) = true := by rw [toList_beq]; exact decide_eq_true et
  have F := Lib.hid (decide_eq_true et)
  clear et
  have HP := Lib.hid (H2.out.below hbW)
  by_cases k9 : q.order.size = 0
  · have q9 : q.order.toList.isEmpty = true := by rw [isEmpty_size]; exact decide_eq_true k9
    have q9' : q.order.toList = [] := List.isEmpty_iff.1 q9
    have HF := Lib.hid (show r = !(q.cols.any (badCol b.columns) || q.conds.any (fun c => badCol b.columns c.1)) by rw [← HR.out, F.out, if_pos k9]; simp)
    clear k9 HR
    go_wp2_with fail
    go_loopw [5] (fun i wr => ∃ (k m : Nat), k ≤ q.cols.length ∧ i = .int .i64 k ∧ Hid ((q.cols.take k).any (badCol b.columns) = false) ∧ wr = w2.drewN m) (fun i _ => q.cols.length - (intOf i).toNat)
    case atStart => exact ⟨0, 0, by omega, rfl, Lib.hid (by simp), rfl⟩
    case round =>
      obtain ⟨k, m, hk, rfl, hno, rfl⟩ := hrel
      by_cases hlt : k < q.cols.length
      · obtain ⟨bb, off, rfl, hb, hc⟩ := (Q1.out.below hbW).str (by omega)
        have hck := hc k hlt
        have hstep := Lib.hid (any_take_succ q.cols (badCol b.columns) k hlt)
        have hfound := Lib.hid (any_of_at q.cols (badCol b.columns) k hlt)
        have j1 : (0 : Int) ≤ (k : Int) := by omega
        have j2 : (k : Int) < (q.cols.length : Int) := by omega
        clear hc
        obtain ⟨y, hy⟩ : ∃ y, y = q.cols[k] := ⟨_, rfl⟩
        rw [← hy] at hck hstep hfound
        clear hy
        have hbad := Lib.hid (hbc.out y)
        by_cases hi : Lib.idxOfS b.columns y < 0
        · have G := Lib.hid (show r = false by rw [HF.out, hfound.out (by rw [hbad.out]; exact decide_eq_true hi)]; rfl)
          have q7 : decide (Lib.idxOfS b.columns y < 0) = true := decide_eq_true hi
          go_wp2_with fail
          go_quiet ((go_at_call 28; first | exact quiet_add_left (l29Place_any b.columns y a2 b.columns.length c2 w.heap.size rfl _ (by omega) HP.out) | exact quiet_left (l29Place_any b.columns y a2 b.columns.length c2 w.heap.size rfl _ (by omega) HP.out)))
          go_wp2_with fail
          go_ret
          exact ⟨by rw [G.out]; rfl, below_drewN (below_drewN hbW _) _⟩
        · have q7 : decide (Lib.idxOfS b.columns y < 0) = false := decide_eq_false hi
          have G := Lib.hid (show badCol b.columns y = false by rw [hbad.out]; exact q7)
          clear hi
          go_wp2_with fail
          go_quiet ((go_at_call 28; first | exact quiet_add_left (l29Place_any b.columns y a2 b.columns.length c2 w.heap.size rfl _ (by omega) HP.out) | exact quiet_left (l29Place_any b.columns y a2 b.columns.length c2 w.heap.size rfl _ (by omega) HP.out)))
          go_wp2_with fail
          go_roundw
          case rel => exact ⟨k + 1, _, by omega, by go_num, Lib.hid (by rw [hstep.out, hno.out, G.out]; rfl), rfl⟩
          case measure => simp [intOf]; omega
      · have HF2 := Lib.hid (show r = !(q.conds.any (fun c => badCol b.columns c.1)) by have := hno.out; rw [List.take_of_length_le (by omega)] at this; rw [HF.out, this]; rfl)
        go_wp2_with fail
        go_loopw [6] (fun i wr => ∃ (k m : Nat), k ≤ q.conds.length ∧ i = .int .i64 k ∧ Hid ((q.conds.take k).any (fun c => badCol b.columns c.1) = false) ∧ wr = w2.drewN m) (fun i _ => q.conds.length - (intOf i).toNat)
        case atStart => exact ⟨0, m, by omega, rfl, Lib.hid (by simp), rfl⟩
        case round =>
          obtain ⟨k, m, hk2, rfl, hno, rfl⟩ := hrel
          by_cases hlt2 : k < q.conds.length
          · obtain ⟨bb, off, rfl, hb, hc⟩ := (Q2.out.below hbW).cond (by omega)
            obtain ⟨g1, g2, g3⟩ := hc k hlt2
            have hstep := Lib.hid (any_take_succ q.conds (fun c => badCol b.columns c.1) k hlt2)
            have hfound := Lib.hid (any_of_at q.conds (fun c => badCol b.columns c.1) k hlt2)
            have j1 : (0 : Int) ≤ (k : Int) := by omega
            have j2 : (k : Int) < (q.conds.length : Int) := by omega
            clear hc
            obtain ⟨⟨y, op, val⟩, hy⟩ : ∃ y, y = q.conds[k] := ⟨_, rfl⟩
            rw [← hy] at g1 g2 g3 hstep hfound
            clear hy
            have hbad := Lib.hid (hbc.out y)
            by_cases hi : Lib.idxOfS b.columns y < 0
            · have G := Lib.hid (show r = false by rw [HF2.out, hfound.out (by show badCol b.columns y = true; rw [hbad.out]; exact decide_eq_true hi)]; rfl)
              have q7 : decide (Lib.idxOfS b.columns y < 0) = true := decide_eq_true hi
              go_wp2_with fail
              go_quiet ((go_at_call 28; first | exact quiet_add_left (l29Place_any b.columns y a2 b.columns.length c2 w.heap.size rfl _ (by omega) HP.out) | exact quiet_left (l29Place_any b.columns y a2 b.columns.length c2 w.heap.size rfl _ (by omega) HP.out)))
              go_wp2_with fail
              go_ret
              exact ⟨by rw [G.out]; rfl, below_drewN (below_drewN hbW _) _⟩
            · have q7 : decide (Lib.idxOfS b.columns y < 0) = false := decide_eq_false hi
              have G := Lib.hid (show badCol b.columns y = false by rw [hbad.out]; exact q7)
              clear hi
              go_wp2_with fail
              go_quiet ((go_at_call 28; first | exact quiet_add_left (l29Place_any b.columns y a2 b.columns.length c2 w.heap.size rfl _ (by omega) HP.out) | exact quiet_left (l29Place_any b.columns y a2 b.columns.length c2 w.heap.size rfl _ (by omega) HP.out)))
              go_wp2_with fail
              go_roundw
              case rel => exact ⟨k + 1, _, by omega, by go_num, Lib.hid (by rw [hstep.out, hno.out]; show (false || badCol b.columns y) = false; rw [G.out]; rfl), rfl⟩
              case measure => simp [intOf]; omega
          · have G := Lib.hid (show r = true by have := hno.out; rw [List.take_of_length_le (by omega)] at this; rw [HF2.out, this]; rfl)
            go_wp2_with fail
            go_ret
            exact ⟨by rw [G.out]; rfl, below_drewN hbW _⟩
  · have q9 : q.order.toList.isEmpty = false := by rw [isEmpty_size]; exact decide_eq_false k9
    have HO := Lib.hid (show r = !(q.cols.any (badCol b.columns) || (q.conds.any (fun c => badCol b.columns c.1) || badCol b.columns q.order)) by rw [← HR.out, F.out, if_neg k9]; rfl)
    clear k9 HR
    go_wp2_with fail
    refine (l29Place_any b.columns q.order a2 b.columns.length c2 w.heap.size rfl w2 (by omega) HP.out).mono ?_
    rintro e w3 ⟨rfl, rfl⟩
    by_cases hi : Lib.idxOfS b.columns q.order < 0
    · have G := Lib.hid (show r = false by rw [HO.out, hbc.out, decide_eq_true hi]; simp)
      go_wp2_with fail
      go_ret
      exact ⟨by rw [G.out]; rfl, hbW⟩
    have q7 : decide (Lib.idxOfS b.columns q.order < 0) = false := decide_eq_false hi
    have HF := Lib.hid (show r = !(q.cols.any (badCol b.columns) || q.conds.any (fun c => badCol b.columns c.1)) by rw [HO.out, hbc.out q.order, q7, Bool.or_false])
    clear hi HO
    go_wp2_with fail
    go_loopw [5] (fun i wr => ∃ (k m : Nat), k ≤ q.cols.length ∧ i = .int .i64 k ∧ Hid ((q.cols.take k).any (badCol b.columns) = false) ∧ wr = w2.drewN m) (fun i _ => q.cols.length - (intOf i).toNat)
    case atStart => exact ⟨0, 0, by omega, rfl, Lib.hid (by simp), rfl⟩
    case round =>
      obtain ⟨k, m, hk, rfl, hno, rfl⟩ := hrel
      by_cases hlt : k < q.cols.length
      · obtain ⟨bb, off, rfl, hb, hc⟩ := (Q1.out.below hbW).str (by omega)
        have hck := hc k hlt
        have hstep := Lib.hid (any_take_succ q.cols (badCol b.columns) k hlt)
        have hfound := Lib.hid (any_of_at q.cols (badCol b.columns) k hlt)
        have j1 : (0 : Int) ≤ (k : Int) := by omega
        have j2 : (k : Int) < (q.cols.length : Int) := by omega
        clear hc
        obtain ⟨y, hy⟩ : ∃ y, y = q.cols[k] := ⟨_, rfl⟩
        rw [← hy] at hck hstep hfound
        clear hy
        have hbad := Lib.hid (hbc.out y)
        by_cases hi : Lib.idxOfS b.columns y < 0
        · have G := Lib.hid (show r = false by rw [HF.out, hfound.out (by rw [hbad.out]; exact decide_eq_true hi)]; rfl)
          have q7 : decide (Lib.idxOfS b.columns y < 0) = true := decide_eq_true hi
          go_wp2_with fail
          go_quiet ((go_at_call 28; first | exact quiet_add_left (l29Place_any b.columns y a2 b.columns.length c2 w.heap.size rfl _ (by omega) HP.out) | exact quiet_left (l29Place_any b.columns y a2 b.columns.length c2 w.heap.size rfl _ (by omega) HP.out)))
          go_wp2_with fail
          go_ret
          exact ⟨by rw [G.out]; rfl, below_drewN (below_drewN hbW _) _⟩
        · have q7 : decide (Lib.idxOfS b.columns y < 0) = false := decide_eq_false hi
          have G := Lib.hid (show badCol b.columns y = false by rw [hbad.out]; exact q7)
          clear hi
          go_wp2_with fail
          go_quiet ((go_at_call 28; first | exact quiet_add_left (l29Place_any b.columns y a2 b.columns.length c2 w.heap.size rfl _ (by omega) HP.out) | exact quiet_left (l29Place_any b.columns y a2 b.columns.length c2 w.heap.size rfl _ (by omega) HP.out)))
          go_wp2_with fail
          go_roundw
          case rel => exact ⟨k + 1, _, by omega, by go_num, Lib.hid (by rw [hstep.out, hno.out, G.out]; rfl), rfl⟩
          case measure => simp [intOf]; omega
      · have HF2 := Lib.hid (show r = !(q.conds.any (fun c => badCol b.columns c.1)) by have := hno.out; rw [List.take_of_length_le (by omega)] at this; rw [HF.out, this]; rfl)
        go_wp2_with fail
        go_loopw [6] (fun i wr => ∃ (k m : Nat), k ≤ q.conds.length ∧ i = .int .i64 k ∧ Hid ((q.conds.take k).any (fun c => badCol b.columns c.1) = false) ∧ wr = w2.drewN m) (fun i _ => q.conds.length - (intOf i).toNat)
        case atStart => exact ⟨0, m, by omega, rfl, Lib.hid (by simp), rfl⟩
        case round =>
          obtain ⟨k, m, hk2, rfl, hno, rfl⟩ := hrel
          by_cases hlt2 : k < q.conds.length
          · obtain ⟨bb, off, rfl, hb, hc⟩ := (Q2.out.below hbW).cond (by omega)
            obtain ⟨g1, g2, g3⟩ := hc k hlt2
            have hstep := Lib.hid (any_take_succ q.conds (fun c => badCol b.columns c.1) k hlt2)
            have hfound := Lib.hid (any_of_at q.conds (fun c => badCol b.columns c.1) k hlt2)
            have j1 : (0 : Int) ≤ (k : Int) := by omega
            have j2 : (k : Int) < (q.conds.length : Int) := by omega
            clear hc
            obtain ⟨⟨y, op, val⟩, hy⟩ : ∃ y, y = q.conds[k] := ⟨_, rfl⟩
            rw [← hy] at g1 g2 g3 hstep hfound
            clear hy
            have hbad := Lib.hid (hbc.out y)
            by_cases hi : Lib.idxOfS b.columns y < 0
            · have G := Lib.hid (show r = false by rw [HF2.out, hfound.out (by show badCol b.columns y = true; rw [hbad.out]; exact decide_eq_true hi)]; rfl)
              have q7 : decide (Lib.idxOfS b.columns y < 0) = true := decide_eq_true hi
              go_wp2_with fail
              go_quiet ((go_at_call 28; first | exact quiet_add_left (l29Place_any b.columns y a2 b.columns.length c2 w.heap.size rfl _ (by omega) HP.out) | exact quiet_left (l29Place_any b.columns y a2 b.columns.length c2 w.heap.size rfl _ (by omega) HP.out)))
              go_wp2_with fail
              go_ret
              exact ⟨by rw [G.out]; rfl, below_drewN (below_drewN hbW _) _⟩
            · have q7 : decide (Lib.idxOfS b.columns y < 0) = false := decide_eq_false hi
              have G := Lib.hid (show badCol b.columns y = false by rw [hbad.out]; exact q7)
              clear hi
              go_wp2_with fail
              go_quiet ((go_at_call 28; first | exact quiet_add_left (l29Place_any b.columns y a2 b.columns.length c2 w.heap.size rfl _ (by omega) HP.out) | exact quiet_left (l29Place_any b.columns y a2 b.columns.length c2 w.heap.size rfl _ (by omega) HP.out)))
              go_wp2_with fail
              go_roundw
              case rel => exact ⟨k + 1, _, by omega, by go_num, Lib.hid (by rw [hstep.out, hno.out]; show (false || badCol b.columns y) = false; rw [G.out]; rfl), rfl⟩
              case measure => simp [intOf]; omega
          · have G := Lib.hid (show r = true by have := hno.out; rw [List.take_of_length_le (by omega)] at this; rw [HF2.out, this]; rfl)
            go_wp2_with fail
            go_ret
            exact ⟨by rw [G.out]; rfl, below_drewN hbW _⟩
set_option maxHeartbeats 1000000 in
theorem queryFits_spec (b : TableV) (q : QueryV) (r : Bool) (hr : fitsB b q = r) (vb vq : Value) (w : World) (hwb : TableWf b) (hwq : QueryWf q) (hnb : tableNeed b ≤ 1048576) (hnq : queryNeed q ≤ 1048576) (atb : TableAt w vb b) (atq : QAt w vq q) :
    Calls Try.prog 13 #[vb, vq] w (ValPost (.bool r) w) := by
  have AB := Lib.hid (fun W (hb : Below w.heap.size w W) => atb.below tableE_good hb)
  have AQ := Lib.hid (fun W (hb : Below w.heap.size w W) => atq.below hb)
  have HC := Lib.hid (fun (W : World) (hb : Below w.heap.size w W) => l30Fits_any b q r hr vb vq W hwb hwq hnb hnq (AB.out W hb) (AQ.out W hb))
  obtain ⟨s0, s1, a2, n2, c2, a3, n3, c3, rfl⟩ := TableAt_agg atb
  obtain ⟨t0, e1, m1, f1, e2, m2, f2, t3, t4, t5, rfl⟩ := atq.agg
  have HB := Lib.hid (show ∀ o1 o2, Below w.heap.size w ((w.alloc o1).alloc o2) from fun o1 o2 => ((Below.refl _ _).alloc (Nat.le_refl _) _).alloc (by simp) _)
  clear atb atq AB AQ hr hwb hwq hnb hnq
  go_enter Try.func13, Try.ntmps13
  go_wp2_with fail
  refine (HC.out _ (HB.out _ _)).mono ?_
  rintro e w1 ⟨rfl, hc⟩
  have hbw := (HB.out _ _).trans (hc.mono (by simp; omega))
  clear hc
  go_wp2_with fail
  go_ret
  exact ⟨rfl, hbw⟩
end Go.Proofs.Ytfaphgpelkkccaa
