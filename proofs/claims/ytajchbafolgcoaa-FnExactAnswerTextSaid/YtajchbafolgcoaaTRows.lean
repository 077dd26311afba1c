/- Rows of tables by value: slices of slices of strings. -/
import Derived.Test.YtajchbafolgcoaaEqs
import Derived.Deep.Onto
import Derived.Deep.RegionHeld3
namespace Go.Proofs.Ytajchbafolgcoaa
open Go.RowKit
set_option linter.unusedVariables false

def rowCells (hs : List (Option Addr × Nat)) (rows : List (List ByteArray)) : List Value := List.zipWith (fun h r => Value.slice h.1 (List.length r) h.2) hs rows

/-- At a slice lie rows of texts. -/
def RowsAt (w : World) (B : Nat) (a : Option Addr) (rows : List (List ByteArray)) : Prop :=
  ∃ hs : List (Option Addr × Nat), hs.length = rows.length ∧ RowAt w B a (rowCells hs rows) ∧ ∀ i (h1 : i < hs.length) (h2 : i < rows.length), RowAt w B hs[i].1 (strCells rows[i]) ∧ rows[i].length ≤ hs[i].2

section
variable {w w' : World} {B B' : Nat} {a : Option Addr} {rows : List (List ByteArray)}
theorem RowsAt.below (h : RowsAt w B a rows) (hb : Below B w w') : RowsAt w' B a rows := by
  obtain ⟨hs, hl, hr, he⟩ := h
  exact ⟨hs, hl, hr.below hb, fun i h1 h2 => ⟨(he i h1 h2).1.below hb, (he i h1 h2).2⟩⟩
theorem RowsAt.more (h : RowsAt w B a rows) (hB : B ≤ B') : RowsAt w B' a rows := by
  obtain ⟨hs, hl, hr, he⟩ := h
  exact ⟨hs, hl, hr.more hB, fun i h1 h2 => ⟨(he i h1 h2).1.more hB, (he i h1 h2).2⟩⟩
theorem RowsAt.row (h : RowsAt w B a rows) (hne : 0 < rows.length) :
    ∃ b off, a = some ⟨b, off, none⟩ ∧ b < B ∧ ∀ i (hi : i < rows.length), ∃ ai ci, w.cell? ⟨b, off + i, none⟩ = some (.slice ai rows[i].length ci) ∧ RowAt w B ai (strCells rows[i]) ∧ rows[i].length ≤ ci := by
  obtain ⟨hs, hl, hr, he⟩ := h
  have hlen : (rowCells hs rows).length = rows.length := by simp [rowCells, hl]
  obtain ⟨b, off, ha, hb, hc⟩ := hr (by omega)
  refine ⟨b, off, ha, hb, fun i hi => ?_⟩
  have hi' : i < hs.length := by omega
  refine ⟨hs[i].1, hs[i].2, hc i _ ?_, he i hi' hi⟩
  simp [rowCells, List.getElem?_zipWith, List.getElem?_eq_getElem hi, List.getElem?_eq_getElem hi']
end

def rowsNeed (rows : List (List ByteArray)) : Nat := rows.length + (rows.map strsNeed).sum
def RowsWf (rows : List (List ByteArray)) : Prop := rows.length ≤ 9223372036854775807 ∧ ∀ r ∈ rows, List.length r ≤ 9223372036854775807 ∧ ∀ x ∈ r, x.size ≤ 9223372036854775807

theorem rneeds_take_succ (xs : List (List ByteArray)) (k : Nat) (h : k < xs.length) : ((xs.take (k + 1)).map strsNeed).sum = ((xs.take k).map strsNeed).sum + strsNeed xs[k] := by
  rw [List.take_succ_eq_append_getElem h, List.map_append, List.sum_append]
  simp only [List.map_cons, List.map_nil, List.sum_cons, List.sum_nil]
  omega
theorem rneeds_take_le (xs : List (List ByteArray)) (k : Nat) : ((xs.take k).map strsNeed).sum ≤ (xs.map strsNeed).sum := by
  have h : (xs.map strsNeed).sum = ((xs.take k).map strsNeed).sum + ((xs.drop k).map strsNeed).sum := by
    rw [← List.sum_append, ← List.map_append, List.take_append_drop]
  omega

set_option maxHeartbeats 1000000 in
theorem szRow_any (r : List ByteArray) (a : Option Addr) (c : Nat) (left : Int) (w : World) (h0 : 0 ≤ left) (h1 : left ≤ 1048576) (hn : r.length ≤ 9223372036854775807) (hs : ∀ x ∈ r, x.size ≤ 9223372036854775807) (hr : RowAt w w.heap.size a (strCells r)) :
    Calls Try.prog 77 #[.agg #[.slice a r.length c], .int .i64 left] w (SzPost (strsNeed r) left w) := by
  have HR := Lib.hid hr
  have HS := Lib.hid hs
  clear hr hs
  go_enter Try.func77, Try.ntmps77
  go_wp2_with fail
  refine (szStringS_any r a c w.heap.size left _ h0 h1 hn HS.out (HR.out.alloc (Nat.le_refl _) _)).mono ?_
  rintro e w1 ⟨x, hx, rfl, hb1⟩
  have HX := Lib.hid hx
  have hbw : Below w.heap.size w w1 := ((Below.refl _ _).alloc (Nat.le_refl _) _).trans (hb1.mono (by simp))
  by_cases hneg : x < 0
  · have F := Lib.hid (show x = -1 from by omega)
    clear hx
    go_wp2_with fail
    go_ret
    exact ⟨-1, by have := HX.out; have := F.out; omega, rfl, hbw⟩
  · have hx2 : x ≤ 1048576 := by omega
    clear hx
    go_wp2_with fail
    go_ret
    exact ⟨x, HX.out, rfl, hbw⟩

set_option maxHeartbeats 1000000 in
theorem szRowS_any (xs : List (List ByteArray)) (a : Option Addr) (c : Nat) (left : Int) (w : World) (h0 : 0 ≤ left) (h1 : left ≤ 1048576) (hwf : RowsWf xs) (hr : RowsAt w w.heap.size a xs) :
    Calls Try.prog 35 #[.slice a xs.length c, .int .i64 left] w (SzPost (rowsNeed xs) left w) := by
  obtain ⟨hn, hs⟩ := hwf
  by_cases hl : left < xs.length
  · have HF := Lib.hid (show left < (rowsNeed xs : Int) from by unfold rowsNeed; omega)
    clear hs hr
    go_enter Try.func35, Try.ntmps35
    go_wp2_with fail
    go_ret
    exact ⟨-1, .inr ⟨HF.out, rfl⟩, rfl, Below.refl _ _⟩
  · have hl' : (xs.length : Int) ≤ left := by omega
    have HS := Lib.hid hs
    have HR := Lib.hid hr
    clear hs hr hl
    go_enter Try.func35, Try.ntmps35
    go_wp2_with fail
    go_loopw [1, 5] (fun l i wr => ∃ (k : Nat) (x : Int), k ≤ xs.length ∧ i = .int .i64 k ∧ l = .int .i64 x ∧ 0 ≤ x ∧ Hid (x + xs.length + ((xs.take k).map strsNeed).sum = left) ∧ Below w.heap.size w wr) (fun _ i _ => xs.length - (intOf i).toNat)
    case atStart => exact ⟨0, left - xs.length, by omega, rfl, rfl, by omega, Lib.hid (by simp), Below.refl _ _⟩
    case round =>
      obtain ⟨k, x, hk, rfl, rfl, hx, HE, hbw⟩ := hrel
      have hx2 : x ≤ 1048576 := by have := HE.out; omega
      by_cases hlt : k < xs.length
      · obtain ⟨b, off, rfl, hb, hc⟩ := (HR.out.below hbw).row (by omega)
        obtain ⟨ai, ci, hck, hrow, hcap⟩ := hc k hlt
        have hsz := HS.out _ (List.getElem_mem hlt)
        have hst := Lib.hid (rneeds_take_succ xs k hlt)
        have hle := Lib.hid (rneeds_take_le xs (k + 1))
        clear hc
        obtain ⟨y, hy⟩ : ∃ y, y = xs[k] := ⟨_, rfl⟩
        rw [← hy] at hck hrow hsz hst
        clear hy
        have HW := Lib.hid hrow
        have HZ := Lib.hid hsz
        clear hrow hsz
        go_wp2_with fail
        refine (szRow_any y ai ci x wr hx hx2 HZ.out.1 HZ.out.2 (HW.out.more hbw.size)).mono ?_
        rintro e w1 ⟨r, hr, rfl, hb1⟩
        have hbw1 := hbw.trans (hb1.mono hbw.size)
        by_cases hneg : r < 0
        · have HF := Lib.hid (show left < (rowsNeed xs : Int) from by have := HE.out; have := hst.out; have := hle.out; unfold rowsNeed; omega)
          clear hr
          go_wp2_with fail
          go_ret
          exact ⟨-1, .inr ⟨HF.out, rfl⟩, rfl, hbw1⟩
        · have HR2 := Lib.hid (show r = x - strsNeed y from by omega)
          clear hr
          go_wp2_with fail
          go_roundw
          case rel => exact ⟨k + 1, r, by omega, by go_num, rfl, by omega, Lib.hid (by have := HE.out; have := hst.out; have := HR2.out; omega), hbw1⟩
          case measure => simp [intOf]; omega
      · have HF := Lib.hid (show (rowsNeed xs : Int) = left - x from by have := HE.out; rw [List.take_of_length_le (by omega)] at this; unfold rowsNeed; omega)
        go_wp2_with fail
        go_ret
        exact ⟨x, .inl ⟨by have := HF.out; omega, by have := HF.out; omega⟩, rfl, hbw⟩

/-- A row comes back: a new one. -/
def RowVPost (r : List ByteArray) (w : World) (e : Ending) (w' : World) : Prop :=
  ∃ a c, e = .returned (.agg #[.slice a r.length c]) ∧ w'.ownsRow w.heap.size 9 1 (.slice a r.length c) r.length (strCells r) ∧ Below w.heap.size w w'

set_option maxHeartbeats 1000000 in
theorem toRow_any (r : List ByteArray) (a : Option Addr) (c : Nat) (w : World) (hn : r.length ≤ 1048576) (hr : RowAt w w.heap.size a (strCells r)) :
    Calls Try.prog 79 #[.agg #[.slice a r.length c]] w (RowVPost r w) := by
  have HR := Lib.hid hr
  clear hr
  go_enter Try.func79, Try.ntmps79
  go_wp2_with fail
  obtain ⟨W0, hW0⟩ : ∃ W0, W0 = (((w.alloc (.cells #[.slice a r.length c] 113)).alloc (.cells #[.slice none 0 0] 114)).alloc (.cells #[.slice none 0 0] 114)) := ⟨_, rfl⟩
  have z0 : W0.heap.size = w.heap.size + 3 := by rw [hW0]; simp
  have bB : Blk W0 (w.heap.size + 1) 114 #[.slice none 0 0] := by
    rw [hW0]; exact (by simpa using Blk.new (w.alloc (.cells #[.slice a r.length c] 113)) 114 #[.slice none 0 0] : Blk _ (w.heap.size + 1) _ _).alloc _
  have bC : Blk W0 (w.heap.size + 1 + 1) 114 #[.slice none 0 0] := by
    rw [hW0]; simpa using Blk.new ((w.alloc (.cells #[.slice a r.length c] 113)).alloc (.cells #[.slice none 0 0] 114)) 114 #[.slice none 0 0]
  have hbW : Below w.heap.size w W0 := by
    rw [hW0]; exact (((Below.refl _ _).alloc (Nat.le_refl _) _).alloc (by simp) _).alloc (by simp; omega) _
  rw [← hW0]
  clear hW0
  refine (toStringS_any r a c W0 hn ((HR.out.below hbW).more hbW.size)).mono ?_
  rintro e w1 ⟨v1, rfl, hown1, hb1⟩
  have B1 := bB.below hb1 (by omega)
  have C1 := bC.below hb1 (by omega)
  have hbw1 := hbW.trans (hb1.mono hbW.size)
  obtain ⟨r1, k1, rfl, hrow1⟩ := RowAt.of_own hown1
  have x0 := C1.cell 0
  have y0 := B1.cell 0
  have fx := C1.frozen 0
  have fy := B1.frozen 0
  simp at x0 y0
  clear B1 C1 hrow1
  go_wp2_with fail
  have T := ((Touched.refl w.heap.size (w.heap.size + 3) w1).setCell (p := ⟨w.heap.size + 1 + 1, 0, none⟩) (by simp; omega) (by simp) (.slice r1 r.length k1)).setCell
    (p := ⟨w.heap.size + 1, 0, none⟩) (by simp) (by simp) (.slice r1 r.length k1)
  exact bodyPost_ret (v := .agg #[.slice r1 r.length k1]) (by simp [results, Try.results79, go_sem, y0]) rfl
    ⟨r1, k1, rfl, (T.own hown1 (by omega)).mono (by omega), T.below hbw1 (Nat.le_refl _)⟩

theorem row_info : (Try.prog.info? 114).map (fun i => (i.zero, i.size, i.bytes)) = some (some (.agg #[.slice none 0 0]), 1, 24) := by kernel_rfl

/-- Rows come back. -/
def RowsPost (rows : List (List ByteArray)) (w : World) (e : Ending) (w' : World) : Prop :=
  ∃ a c, e = .returned (.slice a rows.length c) ∧ RowsAt w' w'.heap.size a rows ∧ Below w.heap.size w w'

theorem rowsAt_of_vals {w : World} {g base : Nat} {t : TypeId} {rows : List (List ByteArray)} {vs : List Value} (hl : vs.length = rows.length) (hf : Filled w g t rows.length rows.length vs)
    (he : ∀ i (h1 : i < vs.length) (h2 : i < rows.length), w.ownsRow base 9 1 vs[i] rows[i].length (strCells rows[i])) : RowsAt w w.heap.size (some ⟨g, 0, none⟩) rows := by
  have each : ∀ i, i < rows.length → ∃ h : Option Addr × Nat, ∃ (h1 : i < vs.length) (h2 : i < rows.length), vs[i] = .slice h.1 rows[i].length h.2 ∧ RowAt w w.heap.size h.1 (strCells rows[i]) ∧ rows[i].length ≤ h.2 := by
    intro i hi
    obtain ⟨a, c, e, hr⟩ := RowAt.of_own (he i (by omega) hi)
    have ho := he i (by omega) hi
    rw [e] at ho
    exact ⟨(a, c), by omega, hi, e, hr, own_cap ho⟩
  obtain ⟨hs, hhl, hh⟩ := list_of_each _ rows.length each
  have hcells : rowCells hs rows = vs := by
    apply List.ext_getElem
    · simp [rowCells, hhl, hl]
    · intro i h1 h2
      have hi : i < rows.length := by omega
      obtain ⟨_, _, e, _⟩ := hh i (by omega)
      rw [e]
      simp [rowCells]
  refine ⟨hs, hhl, ?_, fun i h1 h2 => (hh i h1).choose_spec.choose_spec.2⟩
  rw [hcells]
  intro hpos
  obtain ⟨cur, hb, hsz, htk⟩ := hf
  refine ⟨g, 0, rfl, hb.lt, fun i v hv => ?_⟩
  have hi : i < vs.length := (List.getElem?_eq_some_iff.1 hv).1
  rw [Nat.zero_add, hb.cell i]
  rw [List.take_of_length_le (by simp; omega), List.take_of_length_le (by omega)] at htk
  rw [← htk] at hv
  simpa using hv

set_option maxHeartbeats 1000000 in
theorem toRowS_any (xs : List (List ByteArray)) (a : Option Addr) (c : Nat) (w : World) (hn : xs.length ≤ 1048576) (hs : ∀ r ∈ xs, List.length r ≤ 1048576) (hr : RowsAt w w.heap.size a xs) :
    Calls Try.prog 37 #[.slice a xs.length c] w (RowsPost xs w) := by
  obtain ⟨i0, hi0, hz0, hz1, hz2⟩ := info_parts row_info
  have hmk := fun W => run_make_n (P := Try.prog) 59 114 i0 _ Try.underlying59 hi0 hz0 xs.length (by rw [hz2]; omega) (by omega) W
  rw [hz1, Nat.mul_one] at hmk
  have hsz := size_madeCells (Value.agg #[.slice none 0 0]).cells xs.length
  obtain ⟨mc, hmc⟩ : ∃ mc, mc = madeCells (Value.agg #[.slice none 0 0]).cells xs.length := ⟨_, rfl⟩
  rw [← hmc] at hmk hsz
  have HR := Lib.hid hr
  have HS := Lib.hid hs
  have HSZ := Lib.hid hsz
  clear hr hmc hsz hs
  go_enter Try.func37, Try.ntmps37
  go_wp2_with fail
  go_loopw [4] (fun i wr => ∃ (k : Nat) (vs : List Value), k ≤ xs.length ∧ i = .int .i64 k ∧ Hid (vs.length = k) ∧ Filled wr w.heap.size 114 xs.length k vs ∧ Hid (∀ i (h1 : i < vs.length) (h2 : i < xs.length), wr.ownsRow (w.heap.size + 1) 9 1 vs[i] xs[i].length (strCells xs[i])) ∧ Below w.heap.size w wr ∧ w.heap.size < wr.heap.size) (fun i _ => xs.length - (intOf i).toNat)
  case atStart => exact ⟨0, [], by omega, rfl, Lib.hid rfl, Filled.new _ _ _ _ _ HSZ.out, Lib.hid (fun i h1 => absurd h1 (by simp)), (Below.refl _ _).alloc (Nat.le_refl _) _, by simp⟩
  case round =>
    obtain ⟨k, vs, hk, rfl, HL, hf, HV, hbw, hlg⟩ := hrel
    by_cases hlt : k < xs.length
    · obtain ⟨b, off, rfl, hb, hc⟩ := (HR.out.below hbw).row (by omega)
      obtain ⟨ai, ci, hck, hrow, hcap⟩ := hc k hlt
      have hsk := Lib.hid (HS.out _ (List.getElem_mem hlt))
      have HW := Lib.hid hrow
      have HF := Lib.hid hf
      clear hc hf hrow
      go_wp2_with fail
      refine (toRow_any xs[k] ai ci wr hsk.out (HW.out.more hbw.size)).mono ?_
      rintro e w1 ⟨a1, c1, rfl, hown1, hb1⟩
      have hf1 := HF.out.keep (hb1.block w.heap.size hlg)
      have hbw1 := hbw.trans (hb1.mono hbw.size)
      obtain ⟨u0, hu0⟩ := hf1.cell hlt
      have z0 := hf1.frozen k
      have HP := Lib.hid (hf1.snoc (v := .slice a1 xs[k].length c1) hlt HL.out)
      have HN := Lib.hid hown1
      have HB := Lib.hid hb1
      have hlg1 : w.heap.size < w1.heap.size := by have := hb1.size; omega
      clear hf1 hown1 hb1
      go_wp2_with fail
      go_roundw
      case rel =>
        refine ⟨k + 1, vs ++ [.slice a1 xs[k].length c1], by omega, by go_num, Lib.hid (by simp [HL.out]), HP.out, Lib.hid ?_, hbw1.setCell (p := ⟨w.heap.size, k, none⟩) (Nat.le_refl _) _, by simpa [World.setCell] using hlg1⟩
        intro i h1 h2
        refine ownsRow_setCell_below ?_ (by simp) _
        by_cases hi : i < vs.length
        · rw [List.getElem_append_left hi]
          exact own_below (HV.out i hi h2) HB.out
        · have e : i = k := by have := HL.out; simp at h1; omega
          subst e
          rw [List.getElem_append_right (by omega)]
          simp only [HL.out, Nat.sub_self, List.getElem_cons_zero]
          exact HN.out.mono (by omega)
      case measure => simp [intOf]; omega
    · have e : k = xs.length := by omega
      subst e
      go_wp2_with fail
      go_ret
      exact ⟨_, _, rfl, rowsAt_of_vals HL.out hf HV.out, hbw⟩

set_option maxHeartbeats 1000000 in
theorem eqRow_same (r : List ByteArray) (a a2 : Option Addr) (c c2 : Nat) (w : World) (hn : r.length ≤ 9223372036854775807) (h1 : RowAt w w.heap.size a (strCells r)) (h2 : RowAt w w.heap.size a2 (strCells r)) :
    Calls Try.prog 86 #[.agg #[.slice a r.length c], .agg #[.slice a2 r.length c2]] w fun e w' => e = .returned (.bool true) ∧ Below w.heap.size w w' := by
  have H1 := Lib.hid h1
  have H2 := Lib.hid h2
  clear h1 h2
  have hbW : ∀ o1 o2, Below w.heap.size w ((w.alloc o1).alloc o2) := fun o1 o2 => ((Below.refl _ _).alloc (Nat.le_refl _) _).alloc (by simp) _
  have HBW := Lib.hid hbW
  clear hbW
  go_enter Try.func86, Try.ntmps86
  go_wp2_with fail
  refine (eqStringS_any r r a a2 c c2 w.heap.size true (by simp) _ hn hn (H1.out.below (HBW.out _ _)) (H2.out.below (HBW.out _ _))).mono ?_
  rintro e w1 ⟨rfl, m1, rfl⟩
  go_wp2_with fail
  go_ret
  exact ⟨rfl, below_drewN (HBW.out _ _) _⟩

set_option maxHeartbeats 2000000 in
theorem eqRowS_same (xs : List (List ByteArray)) (a a2 : Option Addr) (c c2 : Nat) (w : World) (hn : xs.length ≤ 9223372036854775807) (hs : ∀ r ∈ xs, List.length r ≤ 9223372036854775807) (h1 : RowsAt w w.heap.size a xs) (h2 : RowsAt w w.heap.size a2 xs) :
    Calls Try.prog 39 #[.slice a xs.length c, .slice a2 xs.length c2] w fun e w' => e = .returned (.bool true) ∧ Below w.heap.size w w' := by
  have H1 := Lib.hid h1
  have H2 := Lib.hid h2
  have HS := Lib.hid hs
  clear h1 h2 hs
  go_enter Try.func39, Try.ntmps39
  go_wp2_with fail
  go_loopw [5] (fun i wr => ∃ (k : Nat), k ≤ xs.length ∧ i = .int .i64 k ∧ Below w.heap.size w wr) (fun i _ => xs.length - (intOf i).toNat)
  case atStart => exact ⟨0, by omega, rfl, Below.refl _ _⟩
  case round =>
    obtain ⟨k, hk, rfl, hbw⟩ := hrel
    by_cases hlt : k < xs.length
    · obtain ⟨b, off, rfl, hb, hc⟩ := (H1.out.below hbw).row (by omega)
      obtain ⟨b2, off2, rfl, hb2, hc2⟩ := (H2.out.below hbw).row (by omega)
      obtain ⟨ai, ci, e1, row1, _⟩ := hc k hlt
      obtain ⟨ai2, ci2, f1, row2, _⟩ := hc2 k hlt
      have hsk := Lib.hid (HS.out _ (List.getElem_mem hlt))
      have b1 : (0 : Int) ≤ (k : Int) := by omega
      have b2' : (k : Int) < (xs.length : Int) := by omega
      have hbr := hbw.size
      have R1 := Lib.hid (row1.more hbr)
      have R2 := Lib.hid (row2.more hbr)
      clear hc hc2 row1 row2
      obtain ⟨y, hy⟩ : ∃ y, y = xs[k] := ⟨_, rfl⟩
      rw [← hy] at e1 f1 R1 R2 hsk
      clear hy
      go_wp2_with fail
      go_region_held3 (fun w' => w'.cell? ⟨b, off + k, none⟩ = some (.slice ai y.length ci) ∧ w'.cell? ⟨b2, off2 + k, none⟩ = some (.slice ai2 y.length ci2)) (first | (refine ⟨?_, ?_⟩ <;> (rw [hbc.cell (by simp; omega)]; assumption)) | go_keep) (first | (go_at_call 86; refine (eqRow_same y ai ai2 ci ci2 wr.drew hsk.out (by exact R1.out) (by exact R2.out)).mono ?_; rintro e w' ⟨rfl, hbc⟩))
      go_wp2_with fail
      go_roundw
      case rel => exact ⟨k + 1, by omega, by go_num, hbw.drew.trans (hbc.mono hbr)⟩
      case measure => simp [intOf]; omega
    · go_wp2_with fail
      go_ret
      exact ⟨rfl, hbw⟩
end Go.Proofs.Ytajchbafolgcoaa
