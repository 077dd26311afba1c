/- TableOk: the program's and the reference's answer alike. -/
import Derived.Test.YtfaphgpelkkccaaQOk
import Derived.Test.YtfaphgpelkkccaaTable
import Derived.Test.YtfaphgpelkkccaaIdxC
namespace Go.Proofs.Ytfaphgpelkkccaa
open Go.RowKit
set_option linter.unusedVariables false

/-- The places of the indexes rise. -/
def idxB (cols : List ByteArray) : List ByteArray → Int → Bool
  | [], _ => true
  | i :: is, a => decide (a < Lib.idxOfS cols i) && idxB cols is (Lib.idxOfS cols i)
/-- A right table. -/
def tableB (x : TableV) : Bool := nameB x.name && (nameB x.global && (inB x.columns.length 1 5 && (decide x.columns.Nodup && (!x.columns.any badName && idxB x.columns x.indexes 0))))

theorem idxFromS_lt (x : ByteArray) : ∀ (zs : List ByteArray) (i : Nat), Lib.idxFromS zs x i < ((i + zs.length : Nat) : Int) ∨ Lib.idxFromS zs x i = -1
  | [], i => .inr rfl
  | z :: zs, i => by
    unfold Lib.idxFromS
    by_cases h : z = x
    · rw [if_pos h]; left; simp; omega
    · rw [if_neg h]
      rcases idxFromS_lt x zs (i + 1) with h | h
      · left; simp at h ⊢; omega
      · exact .inr h
theorem idxOfS_lt (zs : List ByteArray) (x : ByteArray) : Lib.idxOfS zs x < zs.length ∧ -1 ≤ Lib.idxOfS zs x := by
  have h := idxFromS_lt x zs 0
  have h2 : -1 ≤ Lib.idxOfS zs x := by
    by_cases hm : x ∈ zs
    · have := (Lib.idxOfS_nonneg_iff zs x).2 hm; omega
    · have := Lib.idxOfS_miss zs zs.length x (fun j hj e => hm (by rw [← e, getD_at _ _ hj]; exact List.getElem_mem hj))
      rw [List.take_length] at this
      omega
  refine ⟨?_, h2⟩
  show Lib.idxFromS zs x 0 < _
  rcases h with h | h
  · simpa using h
  · rw [h]; omega
theorem idxB_len (cols : List ByteArray) : ∀ (is : List ByteArray) (a : Int), idxB cols is a = true → a < cols.length → a + is.length < cols.length
  | [], a, _, h => by simpa using h
  | i :: is, a, h, _ => by
    unfold idxB at h
    rw [Bool.and_eq_true, decide_eq_true_eq] at h
    have h2 := idxB_len cols is _ h.2 (idxOfS_lt cols i).1
    simp
    omega
theorem idxB_drop (cols is : List ByteArray) (k : Nat) (h : k < is.length) (a : Int) : idxB cols (is.drop k) a = (decide (a < Lib.idxOfS cols is[k]) && idxB cols (is.drop (k + 1)) (Lib.idxOfS cols is[k])) := by
  rw [List.drop_eq_getElem_cons h]; rfl

theorem indexS_any (xs : List ByteArray) (x : ByteArray) (a : Option Addr) (c B : Nat) (w : World) (hn : xs.length ≤ 9223372036854775807) (hr : RowAt w B a (strCells xs)) :
    Calls Try.prog 67 #[.slice a xs.length c, .string x] w fun e w' => e = .returned (.int .i64 (Lib.idxOfS xs x)) ∧ w = w' := by
  by_cases h : 0 < xs.length
  · obtain ⟨b, off, rfl, _, hc⟩ := hr.getD h
    have := Try.slices_Index_string b off xs.length c xs x w (Nat.le_refl _) hn hc
    rw [List.take_length] at this
    exact this.mono fun e w' ⟨h1, h2⟩ => ⟨h1, h2.symm⟩
  · obtain rfl : xs = [] := List.eq_nil_of_length_eq_zero (by omega)
    exact (Try.slices_Index_string_empty a c x w).mono fun e w' ⟨h1, h2⟩ => ⟨h1, h2.symm⟩
theorem containsS_any (xs : List ByteArray) (x : ByteArray) (a : Option Addr) (c B : Nat) (w : World) (hn : xs.length ≤ 9223372036854775807) (hr : RowAt w B a (strCells xs)) :
    Calls Try.prog 46 #[.slice a xs.length c, .string x] w fun e w' => e = .returned (.bool (Lib.containsS xs x)) ∧ w = w' := by
  by_cases h : 0 < xs.length
  · obtain ⟨b, off, rfl, _, hc⟩ := hr.getD h
    have := Try.slices_Contains_string b off xs.length c xs x w (Nat.le_refl _) hn hc
    rw [List.take_length] at this
    exact this.mono fun e w' ⟨h1, h2⟩ => ⟨h1, h2.symm⟩
  · obtain rfl : xs = [] := List.eq_nil_of_length_eq_zero (by omega)
    exact (Try.slices_Contains_string_empty a c x w).mono fun e w' ⟨h1, h2⟩ => ⟨h1, h2.symm⟩
theorem countS_any (xs : List ByteArray) (a : Option Addr) (c : Nat) (w : World) (hn : xs.length ≤ 9223372036854775807) :
    Calls Try.prog 65 #[.slice a xs.length c] w fun e w' => e = .returned (.int .i64 xs.length) ∧ w = w' := by
  go_enter Try.func65, Try.ntmps65
  go_wp2_with fail
  go_ret
  exact ⟨rfl, rfl⟩
theorem tableOk1_any (s : ByteArray) (w : World) (hs : s.size ≤ 9223372036854775807) :
    Calls Try.prog 66 #[.string s] w fun e w' => e = .returned (.bool (badName s)) ∧ Below w.heap.size w w' := by
  obtain ⟨r, hr⟩ : ∃ r, nameB s = r := ⟨_, rfl⟩
  have HR := Lib.hid (show badName s = !r by simp [badName, hr])
  have HC := Lib.hid hr
  clear hr
  go_enter Try.func66, Try.ntmps66
  go_wp2_with fail
  refine (nameOk_any s r HC.out w hs).mono ?_
  rintro e w1 ⟨rfl, rfl⟩
  go_wp2_with fail
  go_ret
  exact ⟨by rw [HR.out]; rfl, Below.refl _ _⟩

set_option maxHeartbeats 4000000 in
theorem tableOk_impl (x : TableV) (r : Bool) (hr : tableB x = r) (v : Value) (w : World) (hx : TableWf x) (hn : tableNeed x ≤ 1048576) (hv : TableAt w v x) :
    Calls Try.prog 43 #[v] w (ValPost (.bool r) w) := by
  obtain ⟨cs, rfl, v2, v3, rfl, A2, A3⟩ := hv
  obtain ⟨t, gl, cols, idxs⟩ := x
  obtain ⟨a2, c2, rfl, hcap2, hr2⟩ := strsE_o A2
  obtain ⟨a3, c3, rfl, hcap3, hr3⟩ := strsE_o A3
  obtain ⟨s0, s1, s2, s3⟩ := hx
  simp only [tableB, tableNeed] at *
  have l2 := strs_small (show strsNeed cols ≤ 1048576 by omega)
  have l3 := strs_small (show strsNeed idxs ≤ 1048576 by omega)
  have H2 := Lib.hid hr2
  have H3 := Lib.hid hr3
  have HR := Lib.hid hr
  have S2 := Lib.hid s2
  clear hr2 hr3 hr s2 s3 A2 A3 hn
  have BW := Lib.hid (fun o => (Below.refl w.heap.size w).alloc (Nat.le_refl _) o)
  obtain ⟨r1, hr1⟩ : ∃ r, nameB t = r := ⟨_, rfl⟩
  obtain ⟨r2, hr2⟩ : ∃ r, nameB gl = r := ⟨_, rfl⟩
  obtain ⟨r3, hr3⟩ : ∃ r, inB cols.length 1 5 = r := ⟨_, rfl⟩
  obtain ⟨r4, hr4⟩ : ∃ r, decide cols.Nodup = r := ⟨_, rfl⟩
  obtain ⟨r5, hr5⟩ : ∃ r, cols.any badName = r := ⟨_, rfl⟩
  rw [hr1, hr2, hr3, hr4, hr5] at HR
  have R1 := Lib.hid hr1
  have R2 := Lib.hid hr2
  have R3 := Lib.hid hr3
  have R4 := Lib.hid hr4
  have R5 := Lib.hid hr5
  clear hr1 hr2 hr3 hr4 hr5
  go_enter Try.func43, Try.ntmps43
  go_wp2_with fail
  refine (nameOk_any t r1 R1.out _ s0).mono ?_
  rintro e w1 ⟨rfl, rfl⟩
  cases r1
  · go_wp2_with fail
    go_ret
    exact ⟨by rw [← HR.out]; rfl, BW.out _⟩
  go_wp2_with fail
  refine (nameOk_any gl r2 R2.out _ s1).mono ?_
  rintro e w1 ⟨rfl, rfl⟩
  cases r2
  · go_wp2_with fail
    go_ret
    exact ⟨by rw [← HR.out]; rfl, BW.out _⟩
  go_wp2_with fail
  refine (countS_any cols a2 c2 _ (by omega)).mono ?_
  rintro e w1 ⟨rfl, rfl⟩
  go_wp2_with fail
  refine (within_any cols.length 1 5 r3 R3.out _).mono ?_
  rintro e w1 ⟨rfl, rfl⟩
  cases r3
  · go_wp2_with fail
    go_ret
    exact ⟨by rw [← HR.out]; rfl, BW.out _⟩
  go_wp2_with fail
  refine (distinct_any cols a2 c2 r4 R4.out _ l2 ((H2.out.below (BW.out _)).more (by simp))).mono ?_
  rintro e w1 ⟨rfl, hb1⟩
  have bA := (Blk.new w 38 #[.string t, .string gl, .slice a2 cols.length c2, .slice a3 idxs.length c3]).below hb1 (by simp)
  have hbw := (BW.out _).trans (hb1.mono (by simp))
  obtain ⟨x0, x1, x2, x3⟩ := bA.c4
  clear hb1
  cases r4
  · go_wp2_with fail
    go_ret
    exact ⟨by rw [← HR.out]; rfl, hbw⟩
  go_wp2_with fail
  refine (contfS 66 #[] (enters_of Try.func66 (by kernel_rfl) rfl) badName r5 cols R5.out a2 c2 w1 (by omega) ((H2.out.below hbw).more hbw.size) (fun x hx W hW => tableOk1_any x W (S2.out.2 x hx))).mono ?_
  rintro e w2 ⟨rfl, hb2⟩
  have bA2 := bA.below hb2 bA.lt
  have hbw2 := hbw.trans (hb2.mono hbw.size)
  clear x0 x1 x2 x3
  obtain ⟨x0, x1, x2, x3⟩ := bA2.c4
  clear hb2 bA bA2 hbw
  cases r5
  rotate_left
  · go_wp2_with fail
    go_ret
    exact ⟨by rw [← HR.out]; rfl, hbw2⟩
  have HI := Lib.hid (show r = idxB cols idxs 0 by rw [← HR.out]; rfl)
  clear HR
  go_wp2_with fail
  go_loop [3, 36] (fun t i => ∃ (k : Nat) (p : Int), k ≤ idxs.length ∧ i = .int .i64 k ∧ t = .int .i64 p ∧ Hid (r = idxB cols (idxs.drop k) p)) (fun _ i => idxs.length - (intOf i).toNat)
  case atStart => exact ⟨0, 0, by omega, rfl, rfl, HI⟩
  case round =>
    obtain ⟨k, p, hk, rfl, rfl, hI⟩ := hrel
    by_cases hlt : k < idxs.length
    · obtain ⟨b, off, rfl, hb, hc⟩ := (H3.out.below hbw2).str (by omega)
      have hck := hc k hlt
      have hd := Lib.hid (idxB_drop cols idxs k hlt p)
      clear hc
      obtain ⟨y, hy⟩ : ∃ y, y = idxs[k] := ⟨_, rfl⟩
      rw [← hy] at hck hd
      clear hy
      go_wp2_with fail
      refine (indexS_any cols y a2 c2 _ w2 (by omega) (H2.out.below hbw2)).mono ?_
      rintro e w3 ⟨rfl, rfl⟩
      by_cases hle : Lib.idxOfS cols y ≤ p
      · have F := Lib.hid (show r = false by rw [hI.out, hd.out, decide_eq_false (by omega)]; rfl)
        go_wp2_with fail
        go_ret
        exact ⟨by rw [F.out]; rfl, hbw2⟩
      · have q1 : decide (Lib.idxOfS cols y ≤ p) = false := decide_eq_false hle
        have F := Lib.hid (show r = idxB cols (idxs.drop (k + 1)) (Lib.idxOfS cols y) by rw [hI.out, hd.out, decide_eq_true (by omega)]; rfl)
        clear hle
        go_wp2_with fail
        go_round
        case rel => exact ⟨k + 1, _, by omega, by go_num, rfl, F⟩
        case measure => simp [intOf]; omega
    · have F := Lib.hid (show r = true by rw [hI.out, List.drop_eq_nil_of_le (by omega)]; rfl)
      go_wp2_with fail
      go_ret
      exact ⟨by rw [F.out]; rfl, hbw2⟩

set_option maxHeartbeats 8000000 in
theorem l29Ok_any (x : TableV) (r : Bool) (hr : tableB x = r) (v : Value) (w : World) (hx : TableWf x) (hn : tableNeed x ≤ 1048576) (hv : TableAt w v x) :
    Calls Try.prog 64 #[v] w (ValPost (.bool r) w) := by
  obtain ⟨cs, rfl, v2, v3, rfl, A2, A3⟩ := hv
  obtain ⟨t, gl, cols, idxs⟩ := x
  obtain ⟨a2, c2, rfl, hcap2, hr2⟩ := strsE_o A2
  obtain ⟨a3, c3, rfl, hcap3, hr3⟩ := strsE_o A3
  obtain ⟨s0, s1, s2, s3⟩ := hx
  simp only [tableB, tableNeed] at *
  have l2 := strs_small (show strsNeed cols ≤ 1048576 by omega)
  have l3 := strs_small (show strsNeed idxs ≤ 1048576 by omega)
  have H2 := Lib.hid hr2
  have H3 := Lib.hid hr3
  have HR := Lib.hid hr
  have S2 := Lib.hid s2
  clear hr2 hr3 hr s2 s3 A2 A3 hn
  obtain ⟨r1, hr1⟩ : ∃ r, nameB t = r := ⟨_, rfl⟩
  obtain ⟨r2, hr2⟩ : ∃ r, nameB gl = r := ⟨_, rfl⟩
  rw [hr1, hr2] at HR
  have R1 := Lib.hid hr1
  have R2 := Lib.hid hr2
  clear hr1 hr2
  go_enter Try.func64, Try.ntmps64
  go_wp2_with fail
  obtain ⟨W0, hW0⟩ : ∃ W0, W0 = w.alloc (.cells #[.string t, .string gl, .slice a2 cols.length c2, .slice a3 idxs.length c3] 38) := ⟨_, rfl⟩
  have bA : Blk W0 w.heap.size 38 #[.string t, .string gl, .slice a2 cols.length c2, .slice a3 idxs.length c3] := by rw [hW0]; exact Blk.new _ _ _
  have hbW : Below w.heap.size w W0 := by rw [hW0]; exact (Below.refl _ _).alloc (Nat.le_refl _) _
  rw [← hW0]
  clear hW0
  obtain ⟨x0, x1, x2, x3⟩ := bA.c4
  refine (nameOkS_any t r1 R1.out _ s0).mono ?_
  rintro e w1 ⟨rfl, rfl⟩
  cases r1
  · go_wp2_with fail
    go_ret
    exact ⟨by rw [← HR.out]; rfl, hbW⟩
  go_wp2_with fail
  refine (nameOkS_any gl r2 R2.out _ s1).mono ?_
  rintro e w1 ⟨rfl, rfl⟩
  cases r2
  · go_wp2_with fail
    go_ret
    exact ⟨by rw [← HR.out]; rfl, hbW⟩
  by_cases k1 : cols.length < 1
  · have q1 : decide ((cols.length : Int) < 1) = true := decide_eq_true (by omega)
    have F := Lib.hid (show inB cols.length 1 5 = false by unfold inB; rw [decide_eq_false (by omega)]; rfl)
    go_wp2_with fail
    go_ret
    exact ⟨by rw [← HR.out, F.out]; rfl, hbW⟩
  have q1 : decide ((cols.length : Int) < 1) = false := decide_eq_false (by omega)
  by_cases k2 : 5 < cols.length
  · have q2 : decide ((5 : Int) < (cols.length : Int)) = true := decide_eq_true (by omega)
    have F := Lib.hid (show inB cols.length 1 5 = false by unfold inB; rw [decide_eq_false (show ¬ (cols.length : Int) ≤ 5 by omega)]; simp)
    clear k2
    go_wp2_with fail
    go_ret
    exact ⟨by rw [← HR.out, F.out]; rfl, hbW⟩
  have q2 : decide ((5 : Int) < (cols.length : Int)) = false := decide_eq_false (by omega)
  have R3 := Lib.hid (show inB cols.length 1 5 = true by unfold inB; rw [decide_eq_true (by omega), decide_eq_true (by omega)]; rfl)
  by_cases k3 : cols.length ≤ idxs.length
  · have F := Lib.hid (show idxB cols idxs 0 = false by
      cases h : idxB cols idxs 0
      · rfl
      · have := idxB_len cols idxs 0 h (by omega); omega)
    have q3 : decide (cols.length ≤ idxs.length) = true := decide_eq_true k3
    go_wp2_with fail
    go_ret
    exact ⟨by rw [← HR.out, F.out]; simp, hbW⟩
  have q3 : decide (cols.length ≤ idxs.length) = false := decide_eq_false k3
  go_wp2_with fail
  go_loopw [3] (fun i wr => ∃ (k m : Nat), k ≤ cols.length ∧ i = .int .i64 k ∧ Hid ((cols.take k).any badName = false) ∧ Hid ((cols.take k).Nodup) ∧ wr = W0.drewN m) (fun i _ => cols.length - (intOf i).toNat)
  case atStart => exact ⟨0, 0, by omega, rfl, Lib.hid (by simp), Lib.hid (by simp), rfl⟩
  case round =>
    obtain ⟨k, m, hk, rfl, hno, hnd, rfl⟩ := hrel
    by_cases hlt : k < cols.length
    · obtain ⟨b, off, rfl, hb, hc⟩ := (H2.out.below hbW).str (by omega)
      have hck := hc k hlt
      have hsz := S2.out.2 _ (List.getElem_mem hlt)
      have hstep := Lib.hid (any_take_succ cols badName k hlt)
      have hfound := Lib.hid (any_of_at cols badName k hlt)
      have hns := Lib.hid (nodup_take_succ cols k hlt hnd.out)
      have hnn := Lib.hid (not_nodup_of cols k hlt)
      have j1 : (0 : Int) ≤ (k : Int) := by omega
      have j2 : (k : Int) < (cols.length : Int) := by omega
      have j3 : (k : Int) ≤ (c2 : Int) := by omega
      have hlen := Lib.hid (show k = (cols.take k).length by rw [List.length_take]; omega)
      have hrow := Lib.hid (show RowAt W0 w.heap.size (some ⟨b, off, none⟩) (strCells (cols.take k)) by rw [← strCells_take]; exact (H2.out.below hbW).take k)
      clear hc
      obtain ⟨y, hy⟩ : ∃ y, y = cols[k] := ⟨_, rfl⟩
      rw [← hy] at hck hsz hstep hfound hns hnn
      clear hy
      obtain ⟨rn, hrn⟩ : ∃ r, nameB y = r := ⟨_, rfl⟩
      have RN := Lib.hid hrn
      clear hrn
      cases rn
      · have F := Lib.hid (hfound.out (by unfold badName; rw [RN.out]; rfl))
        go_wp2_with fail
        go_quiet ((go_at_call 26; first | exact quiet_add_left (nameOkS_any y false RN.out _ hsz) | exact quiet_left (nameOkS_any y false RN.out _ hsz)))
        go_wp2_with fail
        go_ret
        exact ⟨by rw [← HR.out, F.out]; simp, below_drewN (below_drewN hbW _) _⟩
      · by_cases hmem : y ∈ cols.take k
        · have q5 : 0 ≤ Lib.idxOfS (cols.take k) y := (Lib.idxOfS_nonneg_iff _ _).2 hmem
          have F := Lib.hid (decide_eq_false (hnn.out hmem))
          clear hmem
          go_wp2_with fail
          go_quiet (first | (go_at_call 26; first | exact quiet_add_left (nameOkS_any y true RN.out _ hsz) | exact quiet_left (nameOkS_any y true RN.out _ hsz)) | (go_at_call 28; first | exact quiet_add_left (l29Place_any (cols.take k) y (some ⟨b, off, none⟩) k c2 w.heap.size hlen.out _ (by have := hlen.out; omega) hrow.out) | exact quiet_left (l29Place_any (cols.take k) y (some ⟨b, off, none⟩) k c2 w.heap.size hlen.out _ (by have := hlen.out; omega) hrow.out)))
          go_wp2_with fail
          go_ret
          exact ⟨by rw [← HR.out, F.out]; simp, below_drewN (below_drewN hbW _) _⟩
        · have q5 : decide (0 ≤ Lib.idxOfS (cols.take k) y) = false := decide_eq_false (fun h => hmem ((Lib.idxOfS_nonneg_iff _ _).1 h))
          have N2 := Lib.hid (hns.out hmem)
          clear hmem
          go_wp2_with fail
          go_quiet (first | (go_at_call 26; first | exact quiet_add_left (nameOkS_any y true RN.out _ hsz) | exact quiet_left (nameOkS_any y true RN.out _ hsz)) | (go_at_call 28; first | exact quiet_add_left (l29Place_any (cols.take k) y (some ⟨b, off, none⟩) k c2 w.heap.size hlen.out _ (by have := hlen.out; omega) hrow.out) | exact quiet_left (l29Place_any (cols.take k) y (some ⟨b, off, none⟩) k c2 w.heap.size hlen.out _ (by have := hlen.out; omega) hrow.out)))
          go_wp2_with fail
          go_roundw
          case rel => exact ⟨k + 1, _, by omega, by go_num, Lib.hid (by rw [hstep.out, hno.out]; unfold badName; rw [RN.out]; rfl), N2, rfl⟩
          case measure => simp [intOf]; omega
    · have R5 := Lib.hid (show cols.any badName = false by have := hno.out; rwa [List.take_of_length_le (by omega)] at this)
      have R4 := Lib.hid (decide_eq_true (show cols.Nodup by have := hnd.out; rwa [List.take_of_length_le (by omega)] at this))
      have HI := Lib.hid (show r = idxB cols idxs 0 by rw [← HR.out, R3.out, R4.out, R5.out]; rfl)
      clear HR
      go_wp2_with fail
      go_loopw [4, 5] (fun t i wr => ∃ (k m : Nat) (p : Int), k ≤ idxs.length ∧ i = .int .i64 k ∧ t = .int .i64 p ∧ Hid (r = idxB cols (idxs.drop k) p) ∧ wr = W0.drewN m) (fun _ i _ => idxs.length - (intOf i).toNat)
      case atStart => exact ⟨0, m, 0, by omega, rfl, rfl, HI, rfl⟩
      case round =>
        obtain ⟨k, m, p, hk2, rfl, rfl, hI, rfl⟩ := hrel
        by_cases hlt2 : k < idxs.length
        · obtain ⟨b, off, rfl, hb, hc⟩ := (H3.out.below hbW).str (by omega)
          have hck := hc k hlt2
          have hd := Lib.hid (idxB_drop cols idxs k hlt2 p)
          have hrow := Lib.hid (H2.out.below hbW)
          have j1 : (0 : Int) ≤ (k : Int) := by omega
          have j2 : (k : Int) < (idxs.length : Int) := by omega
          clear hc
          obtain ⟨y, hy⟩ : ∃ y, y = idxs[k] := ⟨_, rfl⟩
          rw [← hy] at hck hd
          clear hy
          go_wp2_with fail
          go_quiet ((go_at_call 28; first | exact quiet_add_left (l29Place_any cols y a2 cols.length c2 w.heap.size rfl _ (by omega) hrow.out) | exact quiet_left (l29Place_any cols y a2 cols.length c2 w.heap.size rfl _ (by omega) hrow.out)))
          by_cases hle : Lib.idxOfS cols y ≤ p
          · have F := Lib.hid (show r = false by rw [hI.out, hd.out, decide_eq_false (by omega)]; rfl)
            go_wp2_with fail
            go_ret
            exact ⟨by rw [F.out]; rfl, below_drewN hbW _⟩
          · have q6 : decide (Lib.idxOfS cols y ≤ p) = false := decide_eq_false hle
            have F := Lib.hid (show r = idxB cols (idxs.drop (k + 1)) (Lib.idxOfS cols y) by rw [hI.out, hd.out, decide_eq_true (by omega)]; rfl)
            clear hle
            go_wp2_with fail
            go_roundw
            case rel => exact ⟨k + 1, _, _, by omega, by go_num, rfl, F, rfl⟩
            case measure => simp [intOf]; omega
        · have F := Lib.hid (show r = true by rw [hI.out, List.drop_eq_nil_of_le (by omega)]; rfl)
          go_wp2_with fail
          go_ret
          exact ⟨by rw [F.out]; rfl, below_drewN hbW _⟩
end Go.Proofs.Ytfaphgpelkkccaa
