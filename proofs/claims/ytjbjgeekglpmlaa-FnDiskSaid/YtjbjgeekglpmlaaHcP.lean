/- Disks that are drawn, by the reckoner: proofs. -/
import Derived.Test.YtjbjgeekglpmlaaHcT
namespace Go.Proofs.Ytjbjgeekglpmlaa
open Go.RowKit
set_option linter.unusedVariables false
set_option linter.unusedSimpArgs false
set_option maxRecDepth 100000

theorem byteW {n : Nat} {l : List PV} (hw : wfB n l = true) (k : Nat) : PV.int .u8 (IntKind.wrap .u8 (drawK l k)) = byteP (UInt8.ofNat (drawK l k).toNat) := by
  obtain ⟨h1, h2⟩ := drawK_range hw k
  unfold byteP
  congr 1
  rw [Go.IntWalk.u8_in _ ⟨h1, h2⟩]
  have : (UInt8.ofNat (drawK l k).toNat).toNat = (drawK l k).toNat := by
    rw [UInt8.toNat_ofNat']
    omega
  rw [this]
  omega
theorem bytesOf_map : ∀ X : List UInt8, bytesOf (X.map byteP) = some X
  | [] => rfl
  | c :: X => by
    show (bytesOf (X.map byteP)).bind (fun r => some (UInt8.ofNat (Int.toNat (c.toNat : Int)) :: r)) = _
    rw [bytesOf_map X, Int.toNat_natCast]
    simp
theorem bytesOf_rep : ∀ c : Nat, bytesOf (List.flatten (List.replicate c [PV.int IntKind.u8 0])) = some (List.replicate c 0)
  | 0 => rfl
  | c + 1 => by
    rw [List.replicate_succ, List.flatten_cons]
    show (bytesOf (List.flatten (List.replicate c [PV.int IntKind.u8 0]))).bind (fun r => some (UInt8.ofNat (Int.toNat 0) :: r)) = _
    rw [bytesOf_rep c]
    rfl
theorem rep_len (x : PV) : ∀ c : Nat, (List.flatten (List.replicate c [x])).length = c
  | 0 => rfl
  | c + 1 => by
    rw [List.replicate_succ, List.flatten_cons, List.length_append, rep_len x c, List.length_singleton]
    omega
theorem rep_map (c : Nat) : List.flatten (List.replicate c [PV.int IntKind.u8 0]) = (List.replicate c (0 : UInt8)).map byteP := by
  induction c with
  | zero => rfl
  | succ c ih =>
    rw [List.replicate_succ, List.flatten_cons, ih, List.replicate_succ, List.map_cons]
    rfl
theorem ok_In : EntryOk Try.prog 33 E_In := entry_of mix (tab := []) trivial (lp := []) (LO := LO0) ⟨Try.func33, by kernel_rfl, by kernel_rfl⟩ (by kernel_rfl) fun ivs res bxs h => by
  unfold E_In at h
  split at h
  · rename_i n a b
    cases h
    refine ⟨noLoop (by kernel_rfl), (q_In_eq n a b).trans ?_⟩
    by_cases hn : a ≤ n
    · rw [dT hn]
      rfl
    · rw [dF hn]
      rfl
  · cases h
theorem ok_hcb0 : EntriesOk Try.prog hcb0 := ⟨ok_In, ok_one, ok_among, ok_pik, ok_dab0⟩
theorem New_loop (t : ByteArray) (w : Int) : ∀ (m i : Nat), m + i ≤ 400 → 1 ≤ i → LoopsTo (rdB brC Try.prog hcb0 lp_New LO_New Try.f63 6 []) [aI ((m + i : Nat) : Int), aBx 4 zD, aBx 6 [.pv (.int .i64 w), .lst 1 9 i (List.replicate i (.str t)) true, .pv .nils], aS t, aI i]
    (.exit 0, [aBx 4 zD, aBx 6 [.pv (.int .i64 w), .lst 1 9 (m + i) (List.replicate (m + i) (.str t)) true, .pv .nils]]) := by
  intro m
  induction m with
  | zero =>
    intro i hm hi
    rw [Nat.zero_add]
    refine .done _ _ ((r_New_eq i w t i i _).trans ?_)
    rw [dF (show ¬ (i : Int) < (i : Int) by omega)]
    rfl
  | succ m ih =>
    intro i hm hi
    have tree := r_New_eq ((m + 1 + i : Nat) : Int) w t i i (List.replicate i (.str t))
    have b1 : ∀ x : PV, Nat.beq (List.length [x]) (1 * 1) = true := fun _ => rfl
    simp (disch := omega) only [b1, dT, wrap1, Bool.true_and, Bool.and_true] at tree
    rw [← List.replicate_succ'] at tree
    have ih' := ih (i + 1) (by omega) (by omega)
    rw [show m + (i + 1) = m + 1 + i by omega] at ih'
    exact .step _ _ _ tree ih'
theorem ok_New : EntryOk Try.prog 63 E_New := entry_of mix ok_hcb0 (lp := lp_New) (LO := LO_New) ⟨Try.func63, by kernel_rfl, by kernel_rfl⟩ (by kernel_rfl) fun ivs res bxs h => by
  unfold E_New at h
  split at h
  · rename_i m w
    obtain ⟨hc, he⟩ := pick1 h
    cases he
    simp only [Bool.and_eq_true, decide_eq_true_eq] at hc
    obtain ⟨⟨⟨h1, h2⟩, h3⟩, h4⟩ := hc
    refine ⟨oneLoop 6 (by kernel_rfl) (by kernel_rfl) (by kernel_rfl) ?_, ?_⟩
    · intro ls e ls' hl
      unfold LO_New at hl
      split at hl
      · rename_i m y z0 z w t i
        obtain ⟨hc, he⟩ := pick1 hl
        cases he
        simp only [Bool.and_eq_true, decide_eq_true_eq, beq_iff_eq] at hc
        obtain ⟨⟨⟨⟨⟨h1, h2⟩, h3⟩, h4⟩, h5⟩, h6⟩ := hc
        rw [h3, h4, Nat.eq_of_beq_eq_true h5, Nat.eq_of_beq_eq_true h6]
        obtain ⟨c, hc⟩ : ∃ c : Nat, m = ((c + 1 : Nat) : Int) := ⟨m.toNat - 1, by omega⟩
        have tree := r_New0_eq m w t 0
        rw [dT (show (0 : Int) < m by omega)] at tree
        have := New_loop t w c 1 (by omega) (Nat.le_refl _)
        rw [hc, Int.toNat_natCast]
        rw [hc] at tree
        exact .step _ _ _ tree this
      · cases hl
    · have tree := q_New_eq m w
      obtain ⟨c, hc⟩ : ∃ c : Nat, w = (c : Int) := ⟨w.toNat, by omega⟩
      simp (disch := omega) only [dT, bytesOf_rep, rep_len, Option.isSome_some, Option.getD_some, Nat.beq_refl, Bool.and_true, Bool.true_and, Bool.not_true] at tree
      exact tree.trans rfl
  · cases h
/-! Bytes. -/
theorem byteP_inj : ∀ {a b : List UInt8}, a.map byteP = b.map byteP → a = b := fun {a b} h => by
  have := congrArg bytesOf h
  rw [bytesOf_map, bytesOf_map] at this
  exact Option.some.inj this
theorem isBy_mk (b : List UInt8) : isBy b.length (b.map byteP) = true := holds_mk ⟨b, rfl, rfl⟩
theorem asBy_mk (b : List UInt8) : asBy (b.map byteP) = b := (byteP_inj (@Classical.epsilon_spec _ (fun c : List UInt8 => b.map byteP = c.map byteP) ⟨b, rfl⟩)).symm
theorem byF_facts (l : List PV) (w : Int) : ∀ (c k : Nat) (b : List UInt8), (byF l w c k b).1.length = b.length ∧ k ≤ (byF l w c k b).2 ∧ (byF l w c k b).2 ≤ k + 3 * c
  | 0, k, b => ⟨rfl, Nat.le_refl _, Nat.le_refl _⟩
  | c + 1, k, b => by
    unfold byF
    obtain ⟨h1, h2, h3⟩ := byF_facts l w c (pikK k w + 1) (b.set (pikV l k w).toNat (byteD l (pikK k w)))
    have := pikK_le k w
    rw [List.length_set] at h1
    exact ⟨h1, by omega, by omega⟩
theorem set_parts (b : List UInt8) (J : Nat) (x : UInt8) (h : J < b.length) : List.take (J * 1) (b.map byteP) ++ [byteP x] ++ List.drop (J * 1 + 1) (b.map byteP) = (b.set J x).map byteP := by
  rw [Nat.mul_one, List.set_eq_take_append_cons_drop, if_pos h, List.map_append, List.map_cons, List.map_take, List.map_drop, List.append_assoc]
  rfl
theorem By_loop (n : Nat) (l : List PV) (hw : wfB n l = true) (hn : n ≤ 1048577) (w : Int) (h1 : 1 ≤ w) : ∀ (c k : Nat) (b : List UInt8), k + 3 * c ≤ 1000000 → (b.length : Int) = w → c ≤ 100 →
    LoopsTo (rdB brC Try.prog hcb0 lp_By LO_By Try.f64 3 [0]) [aB0 (sk n l k), aI w, aM 5 1 5 b.length (b.map byteP), aI c]
      (.exit 0, [aB0 (sk n l (byF l w c k b).2), aM 5 1 5 b.length ((byF l w c k b).1.map byteP)]) := by
  intro c
  induction c with
  | zero =>
    intro k b hk hb hc
    refine .done _ _ ((r_By_eq n l k _ w b.length _ _).trans ?_)
    rw [dF (by omega)]
    rfl
  | succ c ih =>
    intro k b hk hb hc
    have tree := r_By_eq n l k (seedK l k) w b.length (b.map byteP) ((c + 1 : Nat) : Int)
    have hkk := pikK_le k w
    have s0 := srcOk_mk hw (show k ≤ 1048576 by omega) hn
    have s1 := srcOk_mk hw (show pikK k w ≤ 1048576 by omega) hn
    obtain ⟨p1, p2⟩ := pik_range hw k h1
    obtain ⟨J, hJ⟩ := Int.eq_ofNat_of_zero_le p1
    have hJ2 : J < b.length := by omega
    have w1 : IntKind.wrap .i64 (((c + 1 : Nat) : Int) - 1) = (c : Int) := by rw [wrapI (by omega) (by omega)]; omega
    have e1 : (pikK k w : Int) + 1 = ((pikK k w + 1 : Nat) : Int) := by omega
    have b1 : ∀ x : PV, Nat.beq (List.length [x]) 1 = true := fun _ => rfl
    have b4 : Nat.ble (J * 1 + 1) (b.map byteP).length = true := Nat.ble_eq_true_of_le (by rw [List.length_map]; omega)
    rw [Int.toNat_natCast, hJ] at tree
    simp (disch := omega) only [Int.toNat_natCast, s0, s1, e1, w1, b1, b4, byteW hw, dT, Bool.true_and, Bool.and_true] at tree
    rw [set_parts b J _ hJ2] at tree
    have ih' := ih (pikK k w + 1) (b.set J (byteD l (pikK k w))) (by omega) (by rw [List.length_set]; exact hb) (by omega)
    rw [List.length_set] at ih'
    unfold byF
    rw [hJ, Int.toNat_natCast]
    exact .step _ _ _ tree ih'
theorem by_draw (w : Int) (h1 : 1 ≤ w) (h2 : w ≤ 2000) : DrawOk (fun n l k => q_By brC n l k (seedK l k) w) (fun s : ByteArray => cS s) (fun s => (s.size : Int) = w) 20 800000 := by
  intro n l k hw hn hk
  have tree := q_By_eq n l k (seedK l k) w
  have hkk := pikK_le k 5
  have s0 := srcOk_mk hw (show k ≤ 1048576 by omega) hn
  have s1 := srcOk_mk hw (show pikK k 5 ≤ 1048576 by omega) hn
  obtain ⟨p1, p2⟩ := pik_range hw k (m := 5) (by omega)
  obtain ⟨c, hc⟩ := Int.eq_ofNat_of_zero_le p1
  obtain ⟨W, hW⟩ : ∃ W : Nat, w = (W : Int) := ⟨w.toNat, by omega⟩
  rw [Int.toNat_natCast, hc, rep_map] at tree
  have a1 := asBy_mk (List.replicate w.toNat 0)
  have a2 := isBy_mk (List.replicate w.toNat 0)
  rw [List.length_replicate] at a2
  rw [a1, a2] at tree
  obtain ⟨f1, f2, f3⟩ := byF_facts l w c (pikK k 5) (List.replicate w.toNat 0)
  rw [List.length_replicate] at f1
  have f4 : ((byF l w c (pikK k 5) (List.replicate w.toNat 0)).1.map byteP).length = w.toNat := by rw [List.length_map, f1]
  have e2 : (w == (w.toNat : Int)) = true := by rw [beq_iff_eq]; omega
  simp only [Int.toNat_natCast] at tree
  rw [f4, bytesOf_map, s0, s1, e2, Nat.beq_refl] at tree
  simp (disch := omega) only [dT, Bool.true_and, Bool.and_true, decide_true, Nat.beq_refl, Option.isSome_some, Option.getD_some] at tree
  exact ⟨bs (byF l w c (pikK k 5) (List.replicate w.toNat 0)).1, (byF l w c (pikK k 5) (List.replicate w.toNat 0)).2, by omega, by omega, by show ((bs _).size : Int) = w; rw [bs_len, f1]; omega, tree.trans rfl⟩
end Go.Proofs.Ytjbjgeekglpmlaa
