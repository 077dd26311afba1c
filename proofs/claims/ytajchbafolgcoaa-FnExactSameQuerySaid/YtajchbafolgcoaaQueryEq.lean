/- Queries by value, compared: the laws' eqQuery, the reference's and the program's SameQuery. -/
import Derived.Test.YtajchbafolgcoaaQuery
namespace Go.Proofs.Ytajchbafolgcoaa
open Go.RowKit
set_option linter.unusedVariables false

set_option maxHeartbeats 2000000 in
theorem eqQuery_same (q : QueryV) (a1 : Option Addr) (c1 : Nat) (a2 : Option Addr) (c2 : Nat) (b1 : Option Addr) (d1 : Nat) (b2 : Option Addr) (d2 : Nat) (w : World) (h1 : q.cols.length ≤ 1048576) (h2 : q.conds.length ≤ 1048576)
    (hr1 : RowAt w w.heap.size a1 (strCells q.cols)) (hr2 : RowAt w w.heap.size a2 (condCells q.conds)) (hs1 : RowAt w w.heap.size b1 (strCells q.cols)) (hs2 : RowAt w w.heap.size b2 (condCells q.conds)) :
    Calls Try.prog 20 #[qAgg q a1 c1 a2 c2, qAgg q b1 d1 b2 d2] w (ValPost (.bool true) w) := by
  obtain ⟨t, cols, conds, o, d, l⟩ := q
  simp only [qAgg] at *
  have H1 := Lib.hid hr1
  have H2 := Lib.hid hr2
  have H3 := Lib.hid hs1
  have H4 := Lib.hid hs2
  clear hr1 hr2 hs1 hs2
  go_enter Try.func20, Try.ntmps20
  go_wp2_with fail
  obtain ⟨W0, hW0⟩ : ∃ W0, W0 = ((w.alloc (.cells #[.string t, .slice a1 cols.length c1, .slice a2 conds.length c2, .string o, .bool d, .int .i64 l] 36)).alloc
    (.cells #[.string t, .slice b1 cols.length d1, .slice b2 conds.length d2, .string o, .bool d, .int .i64 l] 36)) := ⟨_, rfl⟩
  have bA : Blk W0 w.heap.size 36 #[.string t, .slice a1 cols.length c1, .slice a2 conds.length c2, .string o, .bool d, .int .i64 l] := by
    rw [hW0]; exact (Blk.new _ _ _).alloc _
  have bB : Blk W0 (w.heap.size + 1) 36 #[.string t, .slice b1 cols.length d1, .slice b2 conds.length d2, .string o, .bool d, .int .i64 l] := by
    rw [hW0]; simpa using Blk.new (w.alloc (.cells #[.string t, .slice a1 cols.length c1, .slice a2 conds.length c2, .string o, .bool d, .int .i64 l] 36)) 36 #[.string t, .slice b1 cols.length d1, .slice b2 conds.length d2, .string o, .bool d, .int .i64 l]
  have hbW : Below w.heap.size w W0 := by
    rw [hW0]; exact ((Below.refl _ _).alloc (Nat.le_refl _) _).alloc (by simp) _
  have z0 : W0.heap.size = w.heap.size + 2 := by rw [hW0]; simp
  rw [← hW0]
  clear hW0
  refine (eqStringS_any cols cols a1 b1 c1 d1 w.heap.size true (by simp) W0 (by omega) (by omega) (H1.out.below hbW) (H3.out.below hbW)).mono ?_
  rintro e w1 ⟨rfl, m1, rfl⟩
  have x2 := bA.cell 2
  have y2 := bB.cell 2
  simp at x2 y2
  go_wp2_with fail
  refine (eqCondS_same conds a2 b2 c2 d2 _ (by omega) ((H2.out.below (below_drewN hbW _)).more (by simpa using hbW.size)) ((H4.out.below (below_drewN hbW _)).more (by simpa using hbW.size))).mono ?_
  rintro e w2 ⟨rfl, hb2⟩
  have A2 := (bA.drewN m1).below hb2 (by simp; omega)
  have B2 := (bB.drewN m1).below hb2 (by simp; omega)
  have hbw2 : Below w.heap.size w w2 := (below_drewN hbW m1).trans (hb2.mono (by simpa using hbW.size))
  have x3 := A2.cell 3
  have x4 := A2.cell 4
  have x5 := A2.cell 5
  have y3 := B2.cell 3
  have y4 := B2.cell 4
  have y5 := B2.cell 5
  simp at x3 x4 x5 y3 y4 y5
  clear A2 B2 bA bB x2 y2
  go_wp2_with fail
  go_ret
  exact ⟨rfl, hbw2⟩

/-- Two queries are the same. -/
def sameQ (q p : QueryV) : Bool := decide (q.table = p.table) && (decide (q.cols = p.cols) && (decide (q.conds = p.conds) && (decide (q.order = p.order) && (decide (q.desc = p.desc) && decide (q.limit = p.limit)))))

set_option maxHeartbeats 4000000 in
theorem sameQuery_impl (q p : QueryV) (r : Bool) (hr : sameQ q p = r) (a1 : Option Addr) (c1 : Nat) (a2 : Option Addr) (c2 : Nat) (b1 : Option Addr) (d1 : Nat) (b2 : Option Addr) (d2 : Nat) (w : World)
    (h1 : q.cols.length ≤ 1048576) (h2 : q.conds.length ≤ 1048576) (h3 : p.cols.length ≤ 1048576) (h4 : p.conds.length ≤ 1048576)
    (hr1 : RowAt w w.heap.size a1 (strCells q.cols)) (hr2 : RowAt w w.heap.size a2 (condCells q.conds)) (hs1 : RowAt w w.heap.size b1 (strCells p.cols)) (hs2 : RowAt w w.heap.size b2 (condCells p.conds)) :
    Calls Try.prog 19 #[qAgg q a1 c1 a2 c2, qAgg p b1 d1 b2 d2] w (ValPost (.bool r) w) := by
  obtain ⟨t, cols, conds, o, d, l⟩ := q
  obtain ⟨t', cols', conds', o', d', l'⟩ := p
  simp only [qAgg, sameQ] at *
  have H1 := Lib.hid hr1
  have H2 := Lib.hid hr2
  have H3 := Lib.hid hs1
  have H4 := Lib.hid hs2
  have HR := Lib.hid hr
  clear hr1 hr2 hs1 hs2 hr
  have blo : ∀ o1 o2, Below w.heap.size w ((w.alloc o1).alloc o2) := fun o1 o2 => ((Below.refl _ _).alloc (Nat.le_refl _) _).alloc (by simp) _
  have BLO := Lib.hid blo
  clear blo
  by_cases e1 : t = t'
  · have q1 : (t.toList == t'.toList) = true := by rw [e1]; simp
    have E1 := Lib.hid e1
    clear e1
    go_enter Try.func19, Try.ntmps19
    go_wp2_with fail
    obtain ⟨W0, hW0⟩ : ∃ W0, W0 = ((w.alloc (.cells #[.string t, .slice a1 cols.length c1, .slice a2 conds.length c2, .string o, .bool d, .int .i64 l] 36)).alloc
      (.cells #[.string t', .slice b1 cols'.length d1, .slice b2 conds'.length d2, .string o', .bool d', .int .i64 l'] 36)) := ⟨_, rfl⟩
    have bA : Blk W0 w.heap.size 36 #[.string t, .slice a1 cols.length c1, .slice a2 conds.length c2, .string o, .bool d, .int .i64 l] := by
      rw [hW0]; exact (Blk.new _ _ _).alloc _
    have bB : Blk W0 (w.heap.size + 1) 36 #[.string t', .slice b1 cols'.length d1, .slice b2 conds'.length d2, .string o', .bool d', .int .i64 l'] := by
      rw [hW0]; simpa using Blk.new (w.alloc (.cells #[.string t, .slice a1 cols.length c1, .slice a2 conds.length c2, .string o, .bool d, .int .i64 l] 36)) 36 #[.string t', .slice b1 cols'.length d1, .slice b2 conds'.length d2, .string o', .bool d', .int .i64 l']
    have hbW : Below w.heap.size w W0 := by
      rw [hW0]; exact ((Below.refl _ _).alloc (Nat.le_refl _) _).alloc (by simp) _
    have z0 : W0.heap.size = w.heap.size + 2 := by rw [hW0]; simp
    rw [← hW0]
    clear hW0
    obtain ⟨r2, hr2⟩ : ∃ r2, decide (cols = cols') = r2 := ⟨_, rfl⟩
    refine (equalStrs_any cols cols' a1 b1 c1 d1 w.heap.size r2 hr2 W0 (by omega) (by omega) (H1.out.below hbW) (H3.out.below hbW)).mono ?_
    rintro e w1 ⟨rfl, m1, rfl⟩
    have x2 := bA.cell 2
    have x3 := bA.cell 3
    have x4 := bA.cell 4
    have x5 := bA.cell 5
    have y2 := bB.cell 2
    have y3 := bB.cell 3
    have y4 := bB.cell 4
    have y5 := bB.cell 5
    simp at x2 x3 x4 x5 y2 y3 y4 y5
    clear bA bB
    have R2 := Lib.hid hr2
    clear hr2
    cases r2
    · go_wp2_with fail
      go_ret
      refine ⟨?_, below_drewN hbW _⟩
      rw [← HR.out, R2.out]; simp
    obtain ⟨r3, hr3⟩ : ∃ r3, decide (conds = conds') = r3 := ⟨_, rfl⟩
    go_wp2_with fail
    refine (equalConds_any conds conds' a2 b2 c2 d2 w.heap.size r3 hr3 _ (by omega) (by omega) (H2.out.below (below_drewN hbW _)) (H4.out.below (below_drewN hbW _))).mono ?_
    rintro e w1 ⟨rfl, m2, rfl⟩
    have R3 := Lib.hid hr3
    clear hr3
    cases r3
    · go_wp2_with fail
      go_ret
      refine ⟨?_, below_drewN hbW _⟩
      rw [← HR.out, R3.out]; simp
    by_cases e4 : o = o'
    · have q4 : (o.toList == o'.toList) = true := by rw [e4]; simp
      have E4 := Lib.hid e4
      clear e4
      by_cases e5 : d = d'
      · subst e5
        have q5 : (d == d) = true := by simp
        by_cases e6 : l = l'
        · have q6 : (l == l') = true := by rw [e6]; simp
          have E6 := Lib.hid e6
          clear e6
          go_wp2_with fail
          go_ret
          refine ⟨?_, below_drewN hbW _⟩
          rw [← HR.out, R2.out, R3.out]; simp [E1.out, E4.out, E6.out]
        · have q6 : (l == l') = false := by simpa using e6
          have E6 := Lib.hid e6
          clear e6
          go_wp2_with fail
          go_ret
          refine ⟨?_, below_drewN hbW _⟩
          rw [← HR.out]; simp [E6.out]
      · have q5 : (d == d') = false := by simpa using e5
        have E5 := Lib.hid e5
        clear e5
        go_wp2_with fail
        go_ret
        refine ⟨?_, below_drewN hbW _⟩
        rw [← HR.out]; simp [E5.out]
    · have q4 : (o.toList == o'.toList) = false := by rw [toList_beq]; simpa using e4
      have E4 := Lib.hid e4
      clear e4
      go_wp2_with fail
      go_ret
      refine ⟨?_, below_drewN hbW _⟩
      rw [← HR.out]; simp [E4.out]
  · have q1 : (t.toList == t'.toList) = false := by rw [toList_beq]; simpa using e1
    have E1 := Lib.hid e1
    clear e1
    go_enter Try.func19, Try.ntmps19
    go_wp2_with fail
    go_ret
    refine ⟨?_, BLO.out _ _⟩
    rw [← HR.out]; simp [E1.out]

set_option maxHeartbeats 4000000 in
theorem sameQuery_spec (q p : QueryV) (r : Bool) (hr : sameQ q p = r) (a1 : Option Addr) (c1 : Nat) (a2 : Option Addr) (c2 : Nat) (b1 : Option Addr) (d1 : Nat) (b2 : Option Addr) (d2 : Nat) (w : World)
    (h1 : q.cols.length ≤ 1048576) (h2 : q.conds.length ≤ 1048576) (h3 : p.cols.length ≤ 1048576) (h4 : p.conds.length ≤ 1048576)
    (hr1 : RowAt w w.heap.size a1 (strCells q.cols)) (hr2 : RowAt w w.heap.size a2 (condCells q.conds)) (hs1 : RowAt w w.heap.size b1 (strCells p.cols)) (hs2 : RowAt w w.heap.size b2 (condCells p.conds)) :
    Calls Try.prog 17 #[qAgg q a1 c1 a2 c2, qAgg p b1 d1 b2 d2] w (ValPost (.bool r) w) := by
  obtain ⟨t, cols, conds, o, d, l⟩ := q
  obtain ⟨t', cols', conds', o', d', l'⟩ := p
  simp only [qAgg, sameQ] at *
  have H1 := Lib.hid hr1
  have H2 := Lib.hid hr2
  have H3 := Lib.hid hs1
  have H4 := Lib.hid hs2
  have HR := Lib.hid hr
  clear hr1 hr2 hs1 hs2 hr
  have blo : ∀ o1 o2, Below w.heap.size w ((w.alloc o1).alloc o2) := fun o1 o2 => ((Below.refl _ _).alloc (Nat.le_refl _) _).alloc (by simp) _
  have BLO := Lib.hid blo
  clear blo
  by_cases e1 : t = t'
  · have q1 : (t.toList == t'.toList) = true := by rw [e1]; simp
    have E1 := Lib.hid e1
    clear e1
    go_enter Try.func17, Try.ntmps17
    go_wp2_with fail
    obtain ⟨W0, hW0⟩ : ∃ W0, W0 = ((w.alloc (.cells #[.string t, .slice a1 cols.length c1, .slice a2 conds.length c2, .string o, .bool d, .int .i64 l] 36)).alloc
      (.cells #[.string t', .slice b1 cols'.length d1, .slice b2 conds'.length d2, .string o', .bool d', .int .i64 l'] 36)) := ⟨_, rfl⟩
    have bA : Blk W0 w.heap.size 36 #[.string t, .slice a1 cols.length c1, .slice a2 conds.length c2, .string o, .bool d, .int .i64 l] := by
      rw [hW0]; exact (Blk.new _ _ _).alloc _
    have bB : Blk W0 (w.heap.size + 1) 36 #[.string t', .slice b1 cols'.length d1, .slice b2 conds'.length d2, .string o', .bool d', .int .i64 l'] := by
      rw [hW0]; simpa using Blk.new (w.alloc (.cells #[.string t, .slice a1 cols.length c1, .slice a2 conds.length c2, .string o, .bool d, .int .i64 l] 36)) 36 #[.string t', .slice b1 cols'.length d1, .slice b2 conds'.length d2, .string o', .bool d', .int .i64 l']
    have hbW : Below w.heap.size w W0 := by
      rw [hW0]; exact ((Below.refl _ _).alloc (Nat.le_refl _) _).alloc (by simp) _
    have z0 : W0.heap.size = w.heap.size + 2 := by rw [hW0]; simp
    rw [← hW0]
    clear hW0
    obtain ⟨r2, hr2⟩ : ∃ r2, decide (cols = cols') = r2 := ⟨_, rfl⟩
    refine (l24Texts_any cols cols' a1 b1 c1 d1 w.heap.size r2 hr2 W0 (by omega) (by omega) (H1.out.below hbW) (H3.out.below hbW)).mono ?_
    rintro e w1 ⟨rfl, m1, rfl⟩
    have x2 := bA.cell 2
    have x3 := bA.cell 3
    have x4 := bA.cell 4
    have x5 := bA.cell 5
    have y2 := bB.cell 2
    have y3 := bB.cell 3
    have y4 := bB.cell 4
    have y5 := bB.cell 5
    simp at x2 x3 x4 x5 y2 y3 y4 y5
    clear bA bB
    have R2 := Lib.hid hr2
    clear hr2
    cases r2
    · go_wp2_with fail
      go_ret
      refine ⟨?_, below_drewN hbW _⟩
      rw [← HR.out, R2.out]; simp
    by_cases e3 : conds.length = conds'.length
    · have q3 : ((conds.length : Int) != (conds'.length : Int)) = false := by rw [e3]; simp
      have E3 := Lib.hid e3
      clear e3
      by_cases e4 : o = o'
      · have q4 : (o.toList == o'.toList) = true := by rw [e4]; simp
        have E4 := Lib.hid e4
        clear e4
        by_cases e5 : d = d'
        · subst e5
          have q5 : (d != d) = false := by simp
          by_cases e6 : l = l'
          · have q6 : (l != l') = false := by rw [e6]; simp
            have E6 := Lib.hid e6
            clear e6
            have fin : ∀ b : Bool, decide (conds = conds') = b → r = b := by
              intro b hb
              rw [← HR.out, R2.out, hb]
              simp [E1.out, E4.out, E6.out]
            have FIN := Lib.hid fin
            clear fin
            go_wp2_with fail
            go_loopw [5] (fun i wr => ∃ (k m : Nat), k ≤ conds.length ∧ i = .int .i64 k ∧ Hid (conds.take k = conds'.take k) ∧ wr = W0.drewN m) (fun i _ => conds.length - (intOf i).toNat)
            case atStart => exact ⟨0, m1, by omega, rfl, Lib.hid rfl, rfl⟩
            case round =>
              obtain ⟨k, m, hk, rfl, htk, rfl⟩ := hrel
              by_cases hlt : k < conds.length
              · have hlt2 : k < conds'.length := by have := E3.out; omega
                obtain ⟨b, off, rfl, hb, hc⟩ := (H2.out.below hbW).cond (by omega)
                obtain ⟨b', off', rfl, hb', hc'⟩ := (H4.out.below hbW).cond (by omega)
                obtain ⟨g1, g2, g3⟩ := hc k hlt
                obtain ⟨f1, f2, f3⟩ := hc' k hlt2
                have hstep := Lib.hid (take_eq_succ conds conds' k hlt hlt2 htk.out)
                have hno := Lib.hid (ne_of_at conds conds' k hlt hlt2)
                have j1 : (0 : Int) ≤ (k : Int) := by omega
                have j2 : (k : Int) < (conds.length : Int) := by omega
                have j3 : (k : Int) < (conds'.length : Int) := by omega
                clear hc hc'
                obtain ⟨y, hy⟩ : ∃ y, y = conds[k] := ⟨_, rfl⟩
                obtain ⟨y', hy'⟩ : ∃ y, y = conds'[k] := ⟨_, rfl⟩
                rw [← hy] at g1 g2 g3 hstep hno
                rw [← hy'] at f1 f2 f3 hstep hno
                clear hy hy'
                by_cases hq : y = y'
                · have n1 := neq_cond y y' true (by simpa using hq)
                  have n2 := eqlIn_cond y y' true (by simpa using hq)
                  have HQ := Lib.hid hq
                  clear hq
                  go_wp2_with fail
                  go_quiet (fail)
                  go_wp2_with fail
                  go_roundw
                  case rel => exact ⟨k + 1, _, by omega, by go_num, Lib.hid (hstep.out HQ.out), rfl⟩
                  case measure => simp [intOf]; omega
                · have n1 := neq_cond y y' false (by simpa using hq)
                  have n2 := eqlIn_cond y y' false (by simpa using hq)
                  have HQ := Lib.hid hq
                  clear hq
                  go_wp2_with fail
                  go_quiet (fail)
                  go_wp2_with fail
                  go_ret
                  refine ⟨?_, below_drewN (below_drewN hbW _) _⟩
                  rw [FIN.out false (decide_eq_false (hno.out HQ.out))]
                  rfl
              · have hall := Lib.hid (show conds = conds' from by
                  have := htk.out
                  rwa [List.take_of_length_le (by omega), List.take_of_length_le (by have := E3.out; omega)] at this)
                go_wp2_with fail
                go_ret
                refine ⟨?_, below_drewN hbW _⟩
                rw [FIN.out true (decide_eq_true hall.out)]
                rfl
          · have q6 : (l != l') = true := by simpa using e6
            have E6 := Lib.hid e6
            clear e6
            go_wp2_with fail
            go_ret
            refine ⟨?_, below_drewN hbW _⟩
            rw [← HR.out]; simp [E6.out]
        · have q5 : (d != d') = true := by simpa using e5
          have E5 := Lib.hid e5
          clear e5
          go_wp2_with fail
          go_ret
          refine ⟨?_, below_drewN hbW _⟩
          rw [← HR.out]; simp [E5.out]
      · have q4 : (o.toList == o'.toList) = false := by rw [toList_beq]; simpa using e4
        have E4 := Lib.hid e4
        clear e4
        go_wp2_with fail
        go_ret
        refine ⟨?_, below_drewN hbW _⟩
        rw [← HR.out]; simp [E4.out]
    · have q3 : ((conds.length : Int) != (conds'.length : Int)) = true := bne_iff_ne.2 (by omega)
      have E3 := Lib.hid (show conds ≠ conds' from fun h => e3 (by rw [h]))
      clear e3
      go_wp2_with fail
      go_ret
      refine ⟨?_, below_drewN hbW _⟩
      rw [← HR.out]; simp [E3.out]
  · have q1 : (t.toList == t'.toList) = false := by rw [toList_beq]; simpa using e1
    have E1 := Lib.hid e1
    clear e1
    go_enter Try.func17, Try.ntmps17
    go_wp2_with fail
    go_ret
    refine ⟨?_, BLO.out _ _⟩
    rw [← HR.out]; simp [E1.out]
end Go.Proofs.Ytajchbafolgcoaa
