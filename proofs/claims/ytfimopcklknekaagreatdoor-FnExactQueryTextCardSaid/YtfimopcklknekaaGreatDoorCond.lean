/- Conditions of queries: slices of structs of three cells. -/
import Derived.Test.YtfimopcklknekaaGreatDoorEqs
namespace Go.Proofs.YtfimopcklknekaaGreatDoor
open Go.RowKit
set_option linter.unusedVariables false

/-- A condition: a column, an operation, a value. -/
abbrev CondV := ByteArray × Int × ByteArray

def condCell (c : CondV) : List Value := [.string c.1, .int .i64 c.2.1, .string c.2.2]
def condAgg (c : CondV) : Value := .agg #[.string c.1, .int .i64 c.2.1, .string c.2.2]
def condCells (xs : List CondV) : List Value := xs.flatMap condCell

theorem flat3 {α β : Type} (f : α → List β) (hf : ∀ x, (f x).length = 3) : ∀ (xs : List α) (i j : Nat) (hi : i < xs.length), j < 3 → (xs.flatMap f)[i * 3 + j]? = (f xs[i])[j]?
  | [], i, j, hi, _ => by simp at hi
  | x :: xs, 0, j, _, hj => by
    rw [List.flatMap_cons, List.getElem?_append_left (by rw [hf]; omega)]
    simp
  | x :: xs, i + 1, j, hi, hj => by
    have hi' : i < xs.length := by simpa using hi
    rw [List.flatMap_cons, List.getElem?_append_right (by rw [hf]; omega), hf, show (i + 1) * 3 + j - 3 = i * 3 + j from by omega, flat3 f hf xs i j hi' hj]
    simp
theorem flat3_length {α β : Type} (f : α → List β) (hf : ∀ x, (f x).length = 3) : ∀ (xs : List α), (xs.flatMap f).length = xs.length * 3
  | [] => by simp
  | x :: xs => by rw [List.flatMap_cons, List.length_append, hf, flat3_length f hf xs, List.length_cons]; omega

theorem condCells_length (xs : List CondV) : (condCells xs).length = xs.length * 3 := flat3_length _ (fun _ => rfl) xs
theorem condCells_at {xs : List CondV} {i : Nat} (h : i < xs.length) (j : Nat) (hj : j < 3) : (condCells xs)[i * 3 + j]? = (condCell xs[i])[j]? := flat3 _ (fun _ => rfl) xs i j h hj

theorem RowAt.cond {w : World} {B : Nat} {a : Option Addr} {xs : List CondV} (h : RowAt w B a (condCells xs)) (hne : 0 < xs.length) :
    ∃ b off, a = some ⟨b, off, none⟩ ∧ b < B ∧ ∀ i (hi : i < xs.length), w.cell? ⟨b, off + i * 3, none⟩ = some (.string xs[i].1) ∧ w.cell? ⟨b, off + i * 3 + 1, none⟩ = some (.int .i64 xs[i].2.1) ∧ w.cell? ⟨b, off + i * 3 + 1 + 1, none⟩ = some (.string xs[i].2.2) := by
  obtain ⟨b, off, ha, hb, hc⟩ := h (by rw [condCells_length]; omega)
  refine ⟨b, off, ha, hb, fun i hi => ⟨?_, ?_, ?_⟩⟩
  · have := hc (i * 3 + 0) _ (condCells_at hi 0 (by omega))
    simpa using this
  · have := hc (i * 3 + 1) _ (condCells_at hi 1 (by omega))
    rw [← Nat.add_assoc] at this
    exact this
  · have := hc (i * 3 + 2) _ (condCells_at hi 2 (by omega))
    rw [← Nat.add_assoc] at this
    exact this

def condNeed (c : CondV) : Nat := c.1.size + c.2.2.size
def condsNeed (xs : List CondV) : Nat := xs.length + (xs.map condNeed).sum

set_option maxHeartbeats 1000000 in
theorem szCond_any (c : CondV) (left : Int) (w : World) (h0 : 0 ≤ left) (h1 : left ≤ 1048576) (hc : c.1.size ≤ 9223372036854775807) (hv : c.2.2.size ≤ 9223372036854775807) :
    Calls Tryz.prog 20 #[condAgg c, .int .i64 left] w (SzPost (condNeed c) left w) := by
  obtain ⟨col, op, val⟩ := c
  simp only [condAgg, condNeed] at *
  by_cases c1 : left < col.size
  · go_enter Tryz.func20, Tryz.ntmps20
    go_wp2_with fail
    go_ret
    exact ⟨-1, .inr ⟨by omega, rfl⟩, rfl, (Below.refl _ _).alloc (Nat.le_refl _) _⟩
  · by_cases c2 : left - col.size < val.size
    · go_enter Tryz.func20, Tryz.ntmps20
      go_wp2_with fail
      go_ret
      exact ⟨-1, .inr ⟨by omega, rfl⟩, rfl, (Below.refl _ _).alloc (Nat.le_refl _) _⟩
    · go_enter Tryz.func20, Tryz.ntmps20
      go_wp2_with fail
      go_ret
      exact ⟨_, .inl ⟨by omega, by omega⟩, rfl, (Below.refl _ _).alloc (Nat.le_refl _) _⟩

theorem needs_take_succ (xs : List CondV) (k : Nat) (h : k < xs.length) : ((xs.take (k + 1)).map condNeed).sum = ((xs.take k).map condNeed).sum + condNeed xs[k] := by
  rw [List.take_succ_eq_append_getElem h, List.map_append, List.sum_append]
  simp only [List.map_cons, List.map_nil, List.sum_cons, List.sum_nil]
  omega
theorem needs_take_le (xs : List CondV) (k : Nat) : ((xs.take k).map condNeed).sum ≤ (xs.map condNeed).sum := by
  have h : (xs.map condNeed).sum = ((xs.take k).map condNeed).sum + ((xs.drop k).map condNeed).sum := by
    rw [← List.sum_append, ← List.map_append, List.take_append_drop]
  omega

set_option maxHeartbeats 1000000 in
theorem szCondS_any (xs : List CondV) (a : Option Addr) (c : Nat) (left : Int) (w : World) (h0 : 0 ≤ left) (h1 : left ≤ 1048576) (hn : xs.length ≤ 9223372036854775807)
    (hs : ∀ x ∈ xs, x.1.size ≤ 9223372036854775807 ∧ x.2.2.size ≤ 9223372036854775807) (hr : RowAt w w.heap.size a (condCells xs)) :
    Calls Tryz.prog 10 #[.slice a xs.length c, .int .i64 left] w (SzPost (condsNeed xs) left w) := by
  by_cases hl : left < xs.length
  · have HF := Lib.hid (show left < (condsNeed xs : Int) from by unfold condsNeed; omega)
    go_enter Tryz.func10, Tryz.ntmps10
    go_wp2_with fail
    go_ret
    exact ⟨-1, .inr ⟨HF.out, rfl⟩, rfl, Below.refl _ _⟩
  · have hl' : (xs.length : Int) ≤ left := by omega
    have HS := Lib.hid hs
    have HR := Lib.hid hr
    clear hs hr hl
    go_enter Tryz.func10, Tryz.ntmps10
    go_wp2_with fail
    go_loopw [1, 5] (fun l i wr => ∃ (k : Nat) (x : Int), k ≤ xs.length ∧ i = .int .i64 k ∧ l = .int .i64 x ∧ 0 ≤ x ∧ Hid (x + xs.length + ((xs.take k).map condNeed).sum = left) ∧ Below w.heap.size w wr) (fun _ i _ => xs.length - (intOf i).toNat)
    case atStart => exact ⟨0, left - xs.length, by omega, rfl, rfl, by omega, Lib.hid (by simp), Below.refl _ _⟩
    case round =>
      obtain ⟨k, x, hk, rfl, rfl, hx, HE, hbw⟩ := hrel
      have hx2 : x ≤ 1048576 := by have := HE.out; omega
      by_cases hlt : k < xs.length
      · obtain ⟨b, off, rfl, hb, hc⟩ := (HR.out.below hbw).cond (by omega)
        obtain ⟨hc1, hc2, hc3⟩ := hc k hlt
        have hsz := HS.out _ (List.getElem_mem hlt)
        have hst := Lib.hid (needs_take_succ xs k hlt)
        have hle := Lib.hid (needs_take_le xs (k + 1))
        clear hc
        obtain ⟨y, hy⟩ : ∃ y, y = xs[k] := ⟨_, rfl⟩
        rw [← hy] at hc1 hc2 hc3 hsz hst
        clear hy
        go_wp2_with fail
        refine (szCond_any y x wr hx hx2 hsz.1 hsz.2).mono ?_
        rintro e w1 ⟨r, hr, rfl, hb1⟩
        have hbw1 := hbw.trans (hb1.mono hbw.size)
        by_cases hneg : r < 0
        · have HF := Lib.hid (show left < (condsNeed xs : Int) from by have := HE.out; have := hst.out; have := hle.out; unfold condsNeed; omega)
          clear hr
          go_wp2_with fail
          go_ret
          exact ⟨-1, .inr ⟨HF.out, rfl⟩, rfl, hbw1⟩
        · have HR2 := Lib.hid (show r = x - condNeed y from by omega)
          clear hr
          go_wp2_with fail
          go_roundw
          case rel => exact ⟨k + 1, r, by omega, by go_num, rfl, by omega, Lib.hid (by have := HE.out; have := hst.out; have := HR2.out; omega), hbw1⟩
          case measure => simp [intOf]; omega
      · have HF := Lib.hid (show (condsNeed xs : Int) = left - x from by have := HE.out; rw [List.take_of_length_le (by omega)] at this; unfold condsNeed; omega)
        go_wp2_with fail
        go_ret
        exact ⟨x, .inl ⟨by have := HF.out; omega, by have := HF.out; omega⟩, rfl, hbw⟩

/-- A value comes back; nothing that was there is changed. -/
def ValPost (v : Value) (w : World) (e : Ending) (w' : World) : Prop := e = .returned v ∧ Below w.heap.size w w'

set_option maxHeartbeats 1000000 in
theorem toCond_any (c : CondV) (w : World) :
    Calls Tryz.prog 26 #[condAgg c] w (ValPost (condAgg c) w) := by
  obtain ⟨col, op, val⟩ := c
  simp only [condAgg] at *
  go_enter Tryz.func26, Tryz.ntmps26
  go_wp2_with fail
  refine bodyPost_ret (v := .agg #[.string col, .int .i64 op, .string val]) (by simp [results, Tryz.results26, go_sem]) rfl ⟨rfl, ?_⟩
  exact (((Below.refl _ _).alloc (Nat.le_refl _) _).alloc (by simp) _).alloc (by simp; omega) _

theorem cond_info : (Tryz.prog.info? 41).map (fun i => (i.zero, i.size, i.bytes)) = some (some (.agg #[.string ⟨#[]⟩, .int .i64 0, .string ⟨#[]⟩]), 3, 40) := by kernel_rfl

theorem Filled.put3 {w : World} {g : Nat} {t : TypeId} {n k : Nat} {cs : List Value} (h : Filled w g t (n * 3) (k * 3) cs) {v0 v1 v2 : Value} (hk : k < n)
    (h0 : cs[k * 3 + 0]? = some v0) (h1 : cs[k * 3 + 1]? = some v1) (h2 : cs[k * 3 + 2]? = some v2) :
    Filled (((w.setCell ⟨g, k * 3, none⟩ v0).setCell ⟨g, k * 3 + 1, none⟩ v1).setCell ⟨g, k * 3 + 1 + 1, none⟩ v2) g t (n * 3) ((k + 1) * 3) cs := by
  have a0 := h.put (by omega) h0
  have a1 := a0.put (by omega) h1
  have a2 := a1.put (by omega) h2
  rw [show (k + 1) * 3 = k * 3 + 1 + 1 + 1 from by omega]
  exact a2

set_option maxHeartbeats 1000000 in
theorem toCondS_any (xs : List CondV) (a : Option Addr) (c : Nat) (w : World) (hn : xs.length ≤ 1048576) (hr : RowAt w w.heap.size a (condCells xs)) :
    Calls Tryz.prog 14 #[.slice a xs.length c] w (RowPost 41 3 xs.length (condCells xs) w) := by
  obtain ⟨i0, hi0, hz0, hz1, hz2⟩ := info_parts cond_info
  have hmk := fun W => run_make_n (P := Tryz.prog) 28 41 i0 _ Tryz.underlying28 hi0 hz0 xs.length (by rw [hz2]; omega) (by omega) W
  rw [hz1] at hmk
  have hsz := size_madeCells (Value.agg #[.string ⟨#[]⟩, .int .i64 0, .string ⟨#[]⟩]).cells (xs.length * 3)
  obtain ⟨mc, hmc⟩ : ∃ mc, mc = madeCells (Value.agg #[.string ⟨#[]⟩, .int .i64 0, .string ⟨#[]⟩]).cells (xs.length * 3) := ⟨_, rfl⟩
  rw [← hmc] at hmk hsz
  have HR := Lib.hid hr
  have HSZ := Lib.hid hsz
  clear hr hmc hsz
  go_enter Tryz.func14, Tryz.ntmps14
  go_wp2_with fail
  go_loopw [4] (fun i wr => ∃ k : Nat, k ≤ xs.length ∧ i = .int .i64 k ∧ Filled wr w.heap.size 41 (xs.length * 3) (k * 3) (condCells xs) ∧ Below w.heap.size w wr ∧ w.heap.size < wr.heap.size) (fun i _ => xs.length - (intOf i).toNat)
  case atStart => exact ⟨0, by omega, rfl, by simpa using Filled.new _ _ _ _ _ HSZ.out, (Below.refl _ _).alloc (Nat.le_refl _) _, by simp⟩
  case round =>
    obtain ⟨k, hk, rfl, hf, hbw, hlg⟩ := hrel
    by_cases hlt : k < xs.length
    · obtain ⟨b, off, rfl, hb, hc⟩ := (HR.out.below hbw).cond (by omega)
      obtain ⟨hc1, hc2, hc3⟩ := hc k hlt
      have p0 := condCells_at hlt 0 (by omega)
      have p1 := condCells_at hlt 1 (by omega)
      have p2 := condCells_at hlt 2 (by omega)
      obtain ⟨y, hy⟩ : ∃ y, y = xs[k] := ⟨_, rfl⟩
      rw [← hy] at hc1 hc2 hc3 p0 p1 p2
      have P0 := Lib.hid p0
      have P1 := Lib.hid p1
      have P2 := Lib.hid p2
      have HF := Lib.hid hf
      clear hc hf hy p0 p1 p2
      go_wp2_with fail
      refine (toCond_any y wr).mono ?_
      rintro e w1 ⟨rfl, hb1⟩
      have hf1 := HF.out.keep (hb1.block w.heap.size hlg)
      have hbw1 := hbw.trans (hb1.mono hbw.size)
      obtain ⟨u0, hu0⟩ := hf1.cell (i := k * 3) (by omega)
      obtain ⟨u1, hu1⟩ := hf1.cell (i := k * 3 + 1) (by omega)
      obtain ⟨u2, hu2⟩ := hf1.cell (i := k * 3 + 1 + 1) (by omega)
      have z0 := hf1.frozen (k * 3)
      have z1 := hf1.frozen (k * 3 + 1)
      have z2 := hf1.frozen (k * 3 + 1 + 1)
      have HP := Lib.hid (hf1.put3 hlt P0.out P1.out P2.out)
      have hlg1 : w.heap.size < w1.heap.size := by have := hb1.size; omega
      clear hf1
      unfold condAgg
      go_wp2_with fail
      go_roundw
      case rel => exact ⟨k + 1, by omega, by go_num, HP.out, ((hbw1.setCell (p := ⟨w.heap.size, k * 3, none⟩) (Nat.le_refl _) _).setCell (p := ⟨w.heap.size, k * 3 + 1, none⟩) (Nat.le_refl _) _).setCell (p := ⟨w.heap.size, k * 3 + 1 + 1, none⟩) (Nat.le_refl _) _, by simpa [World.setCell] using hlg1⟩
      case measure => simp [intOf]; omega
    · have e : k = xs.length := by omega
      subst e
      go_wp2_with fail
      go_ret
      refine ⟨_, rfl, Filled.own hf (condCells_length xs) (Nat.le_refl _) (by simp only [maxLen]; omega), hbw⟩

set_option maxHeartbeats 1000000 in
theorem eqCond_any (c d : CondV) (r : Bool) (hr : decide (c = d) = r) (w : World) :
    Calls Tryz.prog 39 #[condAgg c, condAgg d] w (ValPost (.bool r) w) := by
  obtain ⟨c1, c2, c3⟩ := c
  obtain ⟨d1, d2, d3⟩ := d
  have HRes := Lib.hid hr
  clear hr
  simp only [condAgg] at *
  have fin : ∀ b : Bool, ((c1, c2, c3) = (d1, d2, d3) ↔ b = true) → r = b := by
    intro b hb
    rw [← HRes.out, Bool.eq_iff_iff, decide_eq_true_eq]
    exact hb
  have FIN := Lib.hid fin
  clear fin
  have blo : ∀ o1 o2, Below w.heap.size w ((w.alloc o1).alloc o2) := fun o1 o2 => ((Below.refl _ _).alloc (Nat.le_refl _) _).alloc (by simp) _
  have BLO := Lib.hid blo
  clear blo
  by_cases h1 : c1 = d1
  · by_cases h2 : c2 = d2
    · by_cases h3 : c3 = d3
      · have q1 : (c1.toList == d1.toList) = true := by rw [h1]; simp
        have q2 : (c2 == d2) = true := by rw [h2]; simp
        have q2' : (c2 != d2) = false := by rw [h2]; simp
        have q3 : (c3.toList == d3.toList) = true := by rw [h3]; simp
        have F := Lib.hid (FIN.out true (by simp [h1, h2, h3]))
        clear h1 h2 h3
        go_enter Tryz.func39, Tryz.ntmps39
        go_wp2_with fail
        go_ret
        exact ⟨by rw [F.out]; rfl, BLO.out _ _⟩
      · have q1 : (c1.toList == d1.toList) = true := by rw [h1]; simp
        have q2 : (c2 == d2) = true := by rw [h2]; simp
        have q2' : (c2 != d2) = false := by rw [h2]; simp
        have q3 : (c3.toList == d3.toList) = false := by rw [toList_beq]; simpa using h3
        have F := Lib.hid (FIN.out false (by simp [h3]))
        clear h1 h2 h3
        go_enter Tryz.func39, Tryz.ntmps39
        go_wp2_with fail
        go_ret
        exact ⟨by rw [F.out]; rfl, BLO.out _ _⟩
    · have q1 : (c1.toList == d1.toList) = true := by rw [h1]; simp
      have q2 : (c2 == d2) = false := by simpa using h2
      have q2' : (c2 != d2) = true := by simpa using h2
      have F := Lib.hid (FIN.out false (by simp [h2]))
      clear h1 h2
      go_enter Tryz.func39, Tryz.ntmps39
      go_wp2_with fail
      go_ret
      exact ⟨by rw [F.out]; rfl, BLO.out _ _⟩
  · have q1 : (c1.toList == d1.toList) = false := by rw [toList_beq]; simpa using h1
    have F := Lib.hid (FIN.out false (by simp [h1]))
    clear h1
    go_enter Tryz.func39, Tryz.ntmps39
    go_wp2_with fail
    go_ret
    exact ⟨by rw [F.out]; rfl, BLO.out _ _⟩
end Go.Proofs.YtfimopcklknekaaGreatDoor
