/- Disks that are drawn, by the reckoner, third part: proofs. -/
import Derived.Test.YtjbjgeekglpmlaaHeT
namespace Go.Proofs.Ytjbjgeekglpmlaa
open Go.RowKit
set_option linter.unusedVariables false
set_option linter.unusedSimpArgs false
set_option maxRecDepth 100000

theorem among_range {n : Nat} {l : List PV} (hw : wfB n l = true) (k : Nat) {t : List PV} {a b : Int} (h0 : 1 ≤ t.length) (h : t.all (fun p => decide (a ≤ p.asInt) && decide (p.asInt ≤ b)) = true) : a ≤ amongV l k t ∧ amongV l k t ≤ b := by
  obtain ⟨r1, r2⟩ := pickV_range hw k (m := (t.length : Int)) (by omega)
  unfold amongV
  have hlt : (pickV l k t.length).toNat < t.length := by omega
  rw [List.drop_eq_getElem_cons hlt]
  have := List.all_eq_true.1 h _ (List.getElem_mem hlt)
  rw [Bool.and_eq_true, decide_eq_true_eq, decide_eq_true_eq] at this
  exact this
theorem wfI_mk (m : Nat) (t : List PV) (h1 : Nat.beq t.length m = true) (h2 : t.all (PV.isInt .i64) = true) (h3 : 2 ≤ m) (h4 : m ≤ 200) : wfI m t = true := by
  unfold wfI
  rw [h1, h2, dT h3, dT h4]
  rfl
theorem extract_size_le (s : ByteArray) (i j : Nat) : (s.extract i j).size ≤ s.size := by
  rw [extract_bs, bs_len, List.length_take, List.length_drop, Array.length_toList]
  have : s.data.size = s.size := rfl
  omega
theorem dk_draw : DrawOk (fun n l k => q_Dk brC n l k (seedK l k)) dkEnc dkR 1500 500000 := by
  intro n l k hw hn hk
  have tree := q_Dk_eq n l k (seedK l k)
  have s0 := srcOk_mk hw (show k ≤ 1048576 by omega) hn
  have hp0 := pikK_le k 5
  obtain ⟨p1, p2⟩ := pik_range hw k (m := 5) (by omega)
  obtain ⟨c0, hc0⟩ := Int.eq_ofNat_of_zero_le p1
  have w0 : IntKind.wrap .i64 (1 + (c0 : Int)) = ((c0 + 1 : Nat) : Int) := by rw [wrapI (by omega) (by omega)]; omega
  have hW : 1 ≤ amongV l (pikK k 5) [PV.int IntKind.i64 1, PV.int IntKind.i64 4, PV.int IntKind.i64 16, PV.int IntKind.i64 64] ∧ amongV l (pikK k 5) [PV.int IntKind.i64 1, PV.int IntKind.i64 4, PV.int IntKind.i64 16, PV.int IntKind.i64 64] ≤ 64 := among_range hw _ (by decide) (by decide)
  obtain ⟨W, hWe⟩ : ∃ W, W = amongV l (pikK k 5) [PV.int IntKind.i64 1, PV.int IntKind.i64 4, PV.int IntKind.i64 16, PV.int IntKind.i64 64] := ⟨_, rfl⟩
  rw [← hWe] at hW
  obtain ⟨h1, h2⟩ := hW
  have e1 : ((pikK k 5 : Nat) : Int) + 1 = ((pikK k 5 + 1 : Nat) : Int) := by omega
  have s1 := srcOk_mk hw (show pikK k 5 ≤ 1048576 by omega) hn
  have s2 := srcOk_mk hw (show pikK k 5 + 1 ≤ 1048576 by omega) hn
  obtain ⟨S, hS⟩ : ∃ S, S = secV W n l (c0 + 1) (pikK k 5 + 1) := ⟨_, rfl⟩
  obtain ⟨f1, f2, f3, f4⟩ := secV_facts hw hn h1 (show W ≤ 2000 by omega) (c0 + 1) (pikK k 5 + 1) (by omega)
  rw [← hS] at f1 f2 f3 f4
  have s3 := srcOk_mk hw (show S.2 ≤ 1048576 by omega) hn
  have hp1 := pikK_le S.2 5
  obtain ⟨p3, p4⟩ := pik_range hw S.2 (m := 5) (by omega)
  obtain ⟨c1, hc1⟩ := Int.eq_ofNat_of_zero_le p3
  have s4 := srcOk_mk hw (show pikK S.2 5 ≤ 1048576 by omega) hn
  have r1 : Nat.beq (List.replicate (c0 + 1) (PV.str (zeroS W))).length (c0 + 1) = true := by rw [List.length_replicate]; exact Nat.beq_refl _
  obtain ⟨b, bs', hb⟩ : ∃ b bs', S.1 = b :: bs' := by
    cases h : S.1 with
    | nil => rw [h] at f1; simp at f1
    | cons b bs' => exact ⟨b, bs', rfl⟩
  have hlen : (b :: bs').length = c0 + 1 := by rw [← hb]; exact f1
  have hsz : ∀ s ∈ b :: bs', (s.size : Int) = W := by rw [← hb]; exact f2
  have hbz := hsz b (by simp)
  have sh : shL (b :: bs') := ⟨by omega, fun s hs => by have := hsz s hs; omega⟩
  have i1 : isL (PV.sl (c0 + 1) ((b :: bs').map .str)) = true := by rw [← hlen]; exact isL_mk sh
  have i2 : asL (PV.sl (c0 + 1) ((b :: bs').map .str)) = b :: bs' := by rw [← hlen]; exact asL_mk _
  have z1 : PV.asStr (List.headD (List.drop 0 ((b :: bs').map PV.str)) PV.nilp) = b := rfl
  have z2 : (Nat.ble 0 ((b :: bs').map PV.str).length && (Nat.blt 0 (List.drop 0 ((b :: bs').map PV.str)).length && PV.isStr (List.headD (List.drop 0 ((b :: bs').map PV.str)) PV.nilp) && true)) = true := rfl
  have z3 : Nat.ble 1 ((b :: bs').map PV.str).length = true := rfl
  have z4 : List.headD (b :: bs') ⟨#[]⟩ = b := rfl
  have fin : ∀ (nl : Bool) (d : DskT) (k' : Nat), k ≤ k' → k' ≤ k + 1500 → dkR (nl, d) → q_Dk brC n l k (seedK l k) = some (dkEnc (nl, d), [sk n l k']) → ∃ (r : Bool × DskT) (k' : Nat), k ≤ k' ∧ k' ≤ k + 1500 ∧ dkR r ∧ q_Dk brC n l k (seedK l k) = some (dkEnc r, [sk n l k']) := fun nl d k' g1 g2 g3 g4 => ⟨(nl, d), k', g1, g2, g3, g4⟩
  have hsecs : ∀ ss : List ByteArray, ss.length = c0 + 1 → (∀ s ∈ ss, s.size ≤ 64) → 1 ≤ ss.length ∧ ss.length ≤ 5 ∧ ∀ s ∈ ss, s.size ≤ 64 := fun ss g1 g2 => ⟨by omega, by omega, g2⟩
  have hS1 := hsecs (b :: bs') hlen (fun s hs => by have := hsz s hs; omega)
  have ex1 := extract_size_le b 1 b.size
  have hS2 := hsecs (b.extract 1 b.size :: bs') (by rw [List.length_cons]; rw [List.length_cons] at hlen; exact hlen) (fun s hs => by
    rcases List.mem_cons.1 hs with rfl | hs
    · omega
    · exact hS1.2.2 s (List.mem_cons_of_mem _ hs))
  have mo : ((c0 + 1 : Nat) : Int) == ((c0 + 1 : Nat) : Int) := beq_self_eq_true _
  simp (disch := first | omega | rfl) only [Int.toNat_natCast, hc0, w0, e1, ← hWe, ← hS, s0, s1, s2, s3, s4, hc1, wfI_mk, r1, hb, f1, i1, i2, z1, z2, z3, z4, dT, fuel_eq, Bool.and_true, Bool.true_and, Nat.beq_refl, beq_self_eq_true] at tree
  by_cases hz : c1 = 0
  · subst hz
    obtain ⟨q1, q2⟩ := pik_range hw (pikK S.2 5) (m := 20) (by omega)
    have hp2 := pikK_le (pikK S.2 5) 20
    obtain ⟨K4, hK4⟩ : ∃ K4, K4 = pikK (pikK S.2 5) 20 := ⟨_, rfl⟩
    rw [← hK4] at hp2
    have s5 := srcOk_mk hw (show K4 ≤ 1048576 by omega) hn
    have hp3 := pikK_le K4 7
    have s6 := srcOk_mk hw (show pikK K4 7 ≤ 1048576 by omega) hn
    obtain ⟨a1, a2, a3⟩ := byV_facts hw hn h1 (show W ≤ 2000 by omega) (k := pikK K4 7) (by omega)
    have s7 := srcOk_mk hw (show (byV W n l (pikK K4 7)).2 ≤ 1048576 by omega) hn
    have hp4 := pikK_le (byV W n l (pikK K4 7)).2 2
    obtain ⟨q3, q4⟩ := pik_range hw (byV W n l (pikK K4 7)).2 (m := 2) (by omega)
    obtain ⟨q5, q6⟩ := pik_range hw K4 (m := 7) (by omega)
    have w1 : IntKind.wrap .i64 (pikV l K4 7 - 1) = pikV l K4 7 - 1 := wrapI (by omega) (by omega)
    have ex2 := extract_size_le (byV W n l (pikK K4 7)).1 (pikV l (byV W n l (pikK K4 7)).2 2).toNat (byV W n l (pikK K4 7)).1.size
    have e2 : ((K4 : Nat) : Int) + 1 = ((K4 + 1 : Nat) : Int) := by omega
    obtain ⟨g1, g2, g3, g4⟩ := fillV_facts hw b 500 K4 [] (by simp)
    have e0 : (((0 : Nat) : Int) == 0) = true := rfl
    simp (disch := first | omega | rfl) only [Int.toNat_natCast, ← hK4, s5, s6, s7, w1, e0, e2, wfI_mk, dT, Bool.and_true, Bool.true_and] at tree
    cases t0 : (pikV l (pikK S.2 5) 20 == 0) with
    | true =>
      rw [t0] at tree
      refine fin false ⟨W, b :: bs', [⟨pikV l K4 7 - 1, (byV W n l (pikK K4 7)).1.extract (pikV l (byV W n l (pikK K4 7)).2 2).toNat (byV W n l (pikK K4 7)).1.size⟩]⟩ (pikK (byV W n l (pikK K4 7)).2 2) (by omega) (by omega) ⟨by show 0 ≤ W; omega, by show W ≤ 2001; omega, hS1.1, hS1.2.1, hS1.2.2, by show [_].length ≤ 410; simp, fun x hx => ?_, fun h => by cases h⟩ ?_
      · rw [List.mem_singleton.1 hx]
        exact ⟨by show -1 ≤ pikV l K4 7 - 1; omega, by show pikV l K4 7 - 1 ≤ 10; omega, Nat.le_trans ex2 (by omega)⟩
      · unfold dkEnc
        simp only [hlen]
        exact tree.trans rfl
    | false =>
      rw [t0] at tree
      cases t1 : (pikV l (pikK S.2 5) 20 == 1) with
      | true =>
        rw [t1] at tree
        refine fin true ⟨W, b.extract 1 b.size :: bs', []⟩ K4 (by omega) (by omega) ⟨by show 0 ≤ W; omega, by show W ≤ 2001; omega, hS2.1, hS2.2.1, hS2.2.2, by show ([] : List PutT).length ≤ 410; simp, (fun x hx => absurd hx List.not_mem_nil), fun _ => rfl⟩ ?_
        unfold dkEnc
        have hl2 : (b.extract 1 b.size :: bs').length = c0 + 1 := hlen
        simp only [hl2]
        exact tree.trans rfl
      | false =>
        rw [t1] at tree
        cases t2 : (pikV l (pikK S.2 5) 20 == 2) with
        | true =>
          rw [t2] at tree
          obtain ⟨v1, v2⟩ := among_range hw K4 (t := [PV.int IntKind.i64 0, PV.int IntKind.i64 1, PV.int IntKind.i64 2000, PV.int IntKind.i64 2001]) (a := 0) (b := 2001) (by decide) (by decide)
          refine fin true ⟨amongV l K4 [PV.int IntKind.i64 0, PV.int IntKind.i64 1, PV.int IntKind.i64 2000, PV.int IntKind.i64 2001], b :: bs', []⟩ (K4 + 1) (by omega) (by omega) ⟨v1, v2, hS1.1, hS1.2.1, hS1.2.2, by show ([] : List PutT).length ≤ 410; simp, (fun x hx => absurd hx List.not_mem_nil), fun _ => rfl⟩ ?_
          unfold dkEnc
          simp only [hlen]
          exact tree.trans rfl
        | false =>
          rw [t2] at tree
          cases t3 : (pikV l (pikK S.2 5) 20 == 3) with
          | true =>
            rw [t3] at tree
            refine fin false ⟨W, b :: bs', (fillV b l 500 K4 []).1⟩ (fillV b l 500 K4 []).2 (by omega) (by omega) ⟨by show 0 ≤ W; omega, by show W ≤ 2001; omega, hS1.1, hS1.2.1, hS1.2.2, Nat.le_trans g1 (by omega), fun x hx => ?_, fun h => by cases h⟩ ?_
            · rcases g2 x hx with h | h
              · exact absurd h List.not_mem_nil
              · rw [h]
                exact ⟨by show (-1 : Int) ≤ 0; omega, by show (0 : Int) ≤ 10; omega, by show b.size ≤ 64; omega⟩
            · unfold dkEnc
              simp only [hlen]
              exact tree.trans rfl
          | false =>
            rw [t3] at tree
            refine fin true ⟨W, b :: bs', []⟩ K4 (by omega) (by omega) ⟨by show 0 ≤ W; omega, by show W ≤ 2001; omega, hS1.1, hS1.2.1, hS1.2.2, by show ([] : List PutT).length ≤ 410; simp, (fun x hx => absurd hx List.not_mem_nil), fun _ => rfl⟩ ?_
            unfold dkEnc
            simp only [hlen]
            exact tree.trans rfl
  · have e0 : (((c1 : Nat) : Int) == 0) = false := by rw [beq_eq_false_iff_ne]; omega
    obtain ⟨P, hP⟩ : ∃ P, P = putV W ((c0 + 1 : Nat) : Int) n l c1 (pikK S.2 5) := ⟨_, rfl⟩
    obtain ⟨u1, u2, u3, u4⟩ := putV_facts hw hn h1 (show W ≤ 2000 by omega) (m := ((c0 + 1 : Nat) : Int)) (by omega) c1 (pikK S.2 5) (by omega)
    rw [← hP] at u1 u2 u3 u4
    have s8 := srcOk_mk hw (show P.2 ≤ 1048576 by omega) hn
    obtain ⟨q1, q2⟩ := pik_range hw P.2 (m := 20) (by omega)
    have hp2 := pikK_le P.2 20
    obtain ⟨K4, hK4⟩ : ∃ K4, K4 = pikK P.2 20 := ⟨_, rfl⟩
    rw [← hK4] at hp2
    have s5 := srcOk_mk hw (show K4 ≤ 1048576 by omega) hn
    have hp3 := pikK_le K4 7
    have s6 := srcOk_mk hw (show pikK K4 7 ≤ 1048576 by omega) hn
    obtain ⟨a1, a2, a3⟩ := byV_facts hw hn h1 (show W ≤ 2000 by omega) (k := pikK K4 7) (by omega)
    have s7 := srcOk_mk hw (show (byV W n l (pikK K4 7)).2 ≤ 1048576 by omega) hn
    have hp4 := pikK_le (byV W n l (pikK K4 7)).2 2
    obtain ⟨q3, q4⟩ := pik_range hw (byV W n l (pikK K4 7)).2 (m := 2) (by omega)
    obtain ⟨q5, q6⟩ := pik_range hw K4 (m := 7) (by omega)
    have w1 : IntKind.wrap .i64 (pikV l K4 7 - 1) = pikV l K4 7 - 1 := wrapI (by omega) (by omega)
    have ex2 := extract_size_le (byV W n l (pikK K4 7)).1 (pikV l (byV W n l (pikK K4 7)).2 2).toNat (byV W n l (pikK K4 7)).1.size
    have e2 : ((K4 : Nat) : Int) + 1 = ((K4 + 1 : Nat) : Int) := by omega
    have hP2 : ∀ x ∈ P.1, -1 ≤ x.at_ ∧ x.at_ ≤ 10 ∧ x.byt.size ≤ 64 := fun x hx => by
      obtain ⟨y1, y2, y3⟩ := u2 x hx
      exact ⟨by omega, by omega, by omega⟩
    have shp : shPs P.1 := ⟨by omega, fun x hx => by
      obtain ⟨y1, y2, y3⟩ := hP2 x hx
      exact ⟨⟨by omega, by omega⟩, by omega⟩⟩
    have j1 : isPs (PV.sl P.1.length (encP P.1)) = true := isPs_mk shp
    have j2 : asPs (PV.sl P.1.length (encP P.1)) = P.1 := asPs_mk _
    obtain ⟨g1, g2, g3, g4⟩ := fillV_facts hw b 500 K4 P.1 (by omega)
    have b2 : ∀ x y : PV, Nat.beq (List.length [x, y]) (1 * 2) = true := fun _ _ => rfl
    simp (disch := first | omega | rfl) only [Int.toNat_natCast, ← hP, ← hK4, s5, s6, s7, s8, j1, j2, b2, w1, e0, e2, wfI_mk, dT, Bool.and_true, Bool.true_and, Bool.and_false, Bool.false_and] at tree
    cases t0 : (pikV l P.2 20 == 0) with
    | true =>
      rw [t0] at tree
      refine fin false ⟨W, b :: bs', P.1 ++ [⟨pikV l K4 7 - 1, (byV W n l (pikK K4 7)).1.extract (pikV l (byV W n l (pikK K4 7)).2 2).toNat (byV W n l (pikK K4 7)).1.size⟩]⟩ (pikK (byV W n l (pikK K4 7)).2 2) (by omega) (by omega) ⟨by show 0 ≤ W; omega, by show W ≤ 2001; omega, hS1.1, hS1.2.1, hS1.2.2, by show (_ ++ [_]).length ≤ 410; rw [List.length_append, List.length_singleton]; omega, fun x hx => ?_, fun h => by cases h⟩ ?_
      · rcases List.mem_append.1 hx with hx | hx
        · exact hP2 x hx
        · rw [List.mem_singleton.1 hx]
          exact ⟨by show -1 ≤ pikV l K4 7 - 1; omega, by show pikV l K4 7 - 1 ≤ 10; omega, Nat.le_trans ex2 (by omega)⟩
      · unfold dkEnc
        simp only [hlen, encP_app, List.length_append, List.length_singleton]
        exact tree.trans rfl
    | false =>
      rw [t0] at tree
      cases t1 : (pikV l P.2 20 == 1) with
      | true =>
        rw [t1] at tree
        refine fin false ⟨W, b.extract 1 b.size :: bs', P.1⟩ K4 (by omega) (by omega) ⟨by show 0 ≤ W; omega, by show W ≤ 2001; omega, hS2.1, hS2.2.1, hS2.2.2, by show P.1.length ≤ 410; omega, hP2, fun h => by cases h⟩ ?_
        unfold dkEnc
        have hl2 : (b.extract 1 b.size :: bs').length = c0 + 1 := hlen
        simp only [hl2]
        exact tree.trans rfl
      | false =>
        rw [t1] at tree
        cases t2 : (pikV l P.2 20 == 2) with
        | true =>
          rw [t2] at tree
          obtain ⟨v1, v2⟩ := among_range hw K4 (t := [PV.int IntKind.i64 0, PV.int IntKind.i64 1, PV.int IntKind.i64 2000, PV.int IntKind.i64 2001]) (a := 0) (b := 2001) (by decide) (by decide)
          refine fin false ⟨amongV l K4 [PV.int IntKind.i64 0, PV.int IntKind.i64 1, PV.int IntKind.i64 2000, PV.int IntKind.i64 2001], b :: bs', P.1⟩ (K4 + 1) (by omega) (by omega) ⟨v1, v2, hS1.1, hS1.2.1, hS1.2.2, by show P.1.length ≤ 410; omega, hP2, fun h => by cases h⟩ ?_
          unfold dkEnc
          simp only [hlen]
          exact tree.trans rfl
        | false =>
          rw [t2] at tree
          cases t3 : (pikV l P.2 20 == 3) with
          | true =>
            rw [t3] at tree
            refine fin false ⟨W, b :: bs', (fillV b l 500 K4 P.1).1⟩ (fillV b l 500 K4 P.1).2 (by omega) (by omega) ⟨by show 0 ≤ W; omega, by show W ≤ 2001; omega, hS1.1, hS1.2.1, hS1.2.2, Nat.le_trans g1 (by omega), fun x hx => ?_, fun h => by cases h⟩ ?_
            · rcases g2 x hx with h | h
              · exact hP2 x h
              · rw [h]
                exact ⟨by show (-1 : Int) ≤ 0; omega, by show (0 : Int) ≤ 10; omega, by show b.size ≤ 64; omega⟩
            · unfold dkEnc
              simp only [hlen]
              exact tree.trans rfl
          | false =>
            rw [t3] at tree
            refine fin false ⟨W, b :: bs', P.1⟩ K4 (by omega) (by omega) ⟨by show 0 ≤ W; omega, by show W ≤ 2001; omega, hS1.1, hS1.2.1, hS1.2.2, by show P.1.length ≤ 410; omega, hP2, fun h => by cases h⟩ ?_
            unfold dkEnc
            simp only [hlen]
            exact tree.trans rfl
theorem ok_Dk : EntryOk Try.prog 30 E_Dk := entry_ofM mix ok_hdb0 (lp := lp_Dk) (LO := LO_Dk) ⟨Try.func30, by kernel_rfl, by kernel_rfl⟩ (by kernel_rfl) fun ivs res bxs h => by
  unfold E_Dk at h
  split at h
  · rename_i n l a g
    obtain ⟨hc, he⟩ := pick1 h
    cases he
    simp only [Bool.and_eq_true, decide_eq_true_eq] at hc
    obtain ⟨k, rfl, hk, hn, rfl, hw⟩ := srcOk_inv hc.1
    rw [Int.toNat_natCast]
    obtain ⟨_, _, hR, hq⟩ := drawV_ok dk_draw hw hn (k := k) (by omega)
    refine ⟨manyLoops [4, 9, 20] (by kernel_rfl) (fun k hk => ?_) (fun k hk => ?_), _, hq, rfl, ?_⟩
    · rcases List.mem_cons.1 hk with rfl | hk
      · kernel_rfl
      · rcases List.mem_cons.1 hk with rfl | hk
        · kernel_rfl
        · rw [List.mem_singleton.1 hk]; kernel_rfl
    · rcases List.mem_cons.1 hk with rfl | hk
      · refine ⟨noLoop (by kernel_rfl), fun ls e ls' hl => ?_⟩
        unfold LO_Dk at hl
        rw [Nat.beq_refl, cond_true] at hl
        split at hl
        · rename_i n l a g y z0 z w e cn cl m len i
          obtain ⟨hc, he⟩ := pick1 hl
          cases he
          simp only [Bool.and_eq_true, decide_eq_true_eq, beq_iff_eq] at hc
          obtain ⟨⟨⟨⟨⟨⟨⟨⟨⟨⟨⟨h1, h2⟩, h3⟩, h4⟩, h5⟩, h6⟩, h7⟩, h8⟩, h9⟩, h10⟩, h11⟩, h12⟩ := hc
          obtain ⟨k, rfl, hk, hn, rfl, hw⟩ := srcOk_inv h1
          rw [Nat.eq_of_beq_eq_true h3, Nat.eq_of_beq_eq_true h4, Nat.eq_of_beq_eq_true h5, h6, h9, h12, Int.toNat_natCast]
          exact Dk4_loop hw hn h7 h8 m cn k [] cl cn (by simp) (Nat.eq_of_beq_eq_true h11) (by omega) (by omega)
        · cases hl
      · rcases List.mem_cons.1 hk with rfl | hk
        · refine ⟨noLoop (by kernel_rfl), fun ls e ls' hl => ?_⟩
          unfold LO_Dk at hl
          rw [show Nat.beq 9 4 = false from rfl, cond_false, Nat.beq_refl, cond_true] at hl
          split at hl
          · rename_i n l a g y z0 z w e cn cl m i
            rcases pick2 hl with ⟨hc, he⟩ | ⟨_, hc, he⟩
            · cases he
              simp only [Bool.and_eq_true, decide_eq_true_eq, beq_iff_eq] at hc
              obtain ⟨⟨⟨⟨⟨⟨⟨⟨h1, h2⟩, h3⟩, h4⟩, h5⟩, h6⟩, h7⟩, h8⟩, h9⟩ := hc
              rw [Nat.eq_of_beq_eq_true h3, Nat.eq_of_beq_eq_true h4, Nat.eq_of_beq_eq_true h5, h6, h9]
              refine .done _ _ ((r_Dk9a_eq n l a g w m cn cl 0).trans ?_)
              rw [dF (by omega)]
              rfl
            · cases he
              simp only [Bool.and_eq_true, decide_eq_true_eq, beq_iff_eq] at hc
              obtain ⟨⟨⟨⟨⟨⟨⟨⟨⟨⟨h1, h2⟩, h3⟩, h4⟩, h5⟩, h6⟩, h7⟩, h8⟩, h9⟩, h10⟩, hm⟩ := hc
              obtain ⟨k, rfl, hk, hn, rfl, hw⟩ := srcOk_inv h1
              obtain ⟨c, hc⟩ : ∃ c : Nat, i = ((c + 1 : Nat) : Int) := ⟨i.toNat - 1, by omega⟩
              rw [Nat.eq_of_beq_eq_true h3, Nat.eq_of_beq_eq_true h4, Nat.eq_of_beq_eq_true h5, h6, hc, Int.toNat_natCast, Int.toNat_natCast]
              exact Dk9a_loop hw hn h7 h8 hm cn cl c k (by omega) (by omega)
          · cases hl
        · rw [List.mem_singleton.1 hk]
          refine ⟨noLoop (by kernel_rfl), fun ls e ls' hl => ?_⟩
          unfold LO_Dk at hl
          rw [show Nat.beq 20 4 = false from rfl, cond_false, show Nat.beq 20 9 = false from rfl, cond_false] at hl
          split at hl
          · rename_i n l a g y z0 z w e cn cl
            obtain ⟨hc, he⟩ := pick1 hl
            cases he
            simp only [Bool.and_eq_true, decide_eq_true_eq, beq_iff_eq] at hc
            obtain ⟨⟨⟨⟨⟨⟨⟨h1, h2⟩, h3⟩, h4⟩, h5⟩, h6⟩, h7⟩, h8⟩ := hc
            obtain ⟨k, rfl, hk, hn, rfl, hw⟩ := srcOk_inv h1
            obtain ⟨xs, hx, hs⟩ := isL_inv h7
            injection hx with hx1 hx2
            subst hx1 hx2
            have e1 : asL (PV.sl xs.length (xs.map .str)) = xs := asL_mk xs
            rw [e1] at h8 ⊢
            rw [Nat.eq_of_beq_eq_true h3, Nat.eq_of_beq_eq_true h4, Nat.eq_of_beq_eq_true h5, h6, Int.toNat_natCast, fuel_eq]
            cases xs with
            | nil => simp at h8
            | cons s ss =>
              have := Dk20a_loop hw hn w s ss (by have := hs.1; rw [List.length_cons] at this; omega) 499 k (by omega) (by omega)
              exact this
          · rename_i n l a g y z0 z w e cn cl e2 pn pl
            obtain ⟨hc, he⟩ := pick1 hl
            cases he
            simp only [Bool.and_eq_true, decide_eq_true_eq, beq_iff_eq] at hc
            obtain ⟨⟨⟨⟨⟨⟨⟨⟨⟨⟨h1, h2⟩, h3⟩, h4⟩, h5⟩, h5b⟩, h6⟩, h7⟩, h8⟩, h9⟩, h10⟩ := hc
            obtain ⟨k, rfl, hk, hn, rfl, hw⟩ := srcOk_inv h1
            obtain ⟨xs, hx, hs⟩ := isL_inv h7
            injection hx with hx1 hx2
            subst hx1 hx2
            obtain ⟨t, ht, hts⟩ := isPs_inv h9
            injection ht with ht1 ht2
            subst ht1 ht2
            have e1 : asL (PV.sl xs.length (xs.map .str)) = xs := asL_mk xs
            have e2 : asPs (PV.sl t.length (encP t)) = t := asPs_mk t
            rw [e1] at h8 ⊢
            rw [e2] at h10 ⊢
            rw [Nat.eq_of_beq_eq_true h3, Nat.eq_of_beq_eq_true h4, Nat.eq_of_beq_eq_true h5, Nat.eq_of_beq_eq_true h5b, h6, Int.toNat_natCast, fuel_eq]
            cases xs with
            | nil => simp at h8
            | cons s ss => exact Dk20b_loop hw hn w s ss (by have := hs.1; rw [List.length_cons] at this; omega) 500 k t (by omega) (by omega) (by omega)
          · cases hl
    · obtain ⟨_, _, _, _, _, _, _, hnil⟩ := hR
      generalize (dkV n l k).1 = r at hnil ⊢
      obtain ⟨nl, d⟩ := r
      cases nl with
      | true =>
        have hp : d.puts = [] := hnil rfl
        show (IV.agg [_, _, CV.frzM (.pv .nils)]) = IV.agg [_, _, .pv (PV.sl d.puts.length (encP d.puts))]
        rw [hp]
        rfl
      | false => rfl
  · cases h
theorem ok_heb0 : EntriesOk Try.prog heb0 := ⟨ok_Dk, ok_hcb0⟩
theorem keepV_facts (l : List PV) : ∀ (c i k : Nat), (keepV l c i k).1.length ≤ c ∧ (∀ x ∈ (keepV l c i k).1, 0 ≤ x ∧ x < ((i + c : Nat) : Int)) ∧ (keepV l c i k).2 = k + c
  | 0, i, k => ⟨Nat.le_refl _, (fun x h => absurd h List.not_mem_nil), rfl⟩
  | c + 1, i, k => by
    obtain ⟨h1, h2, h3⟩ := keepV_facts l c (i + 1) (k + 1)
    unfold keepV
    split
    · refine ⟨by rw [List.length_cons]; omega, fun x hx => ?_, by show (keepV l c (i + 1) (k + 1)).2 = _; omega⟩
      rcases List.mem_cons.1 hx with rfl | hx
      · omega
      · have := h2 x hx
        omega
    · refine ⟨by omega, fun x hx => ?_, by omega⟩
      have := h2 x hx
      omega
theorem Loss_loop {n : Nat} {l : List PV} (hw : wfB n l = true) (hn : n ≤ 1048577) (w p : PV) (t : List PutT) : ∀ (c i k : Nat) (xs : List Int), c = min t.length 8 - i → k + c ≤ 1000000 → xs.length ≤ i →
    LoopsTo (rdB brC Try.prog heb0 lp_Loss LO_Loss Try.f12 5 []) [aBx 2 zD, aBx 5 (sk n l k), aBx 6 [.pv w, .pv p, .pv (pPs t)], aL 7 1 2 xs.length (xs.map (PV.int .i64)), aI i]
      (.exit 0, [aBx 2 zD, aBx 5 (sk n l (keepV l c i k).2), aBx 6 [.pv w, .pv p, .pv (pPs t)], aL 7 1 2 (xs ++ (keepV l c i k).1).length ((xs ++ (keepV l c i k).1).map (PV.int .i64))])
  | 0, i, k, xs, hc, hk, hx => by
    refine .done _ _ ((r_Loss_eq n l k (seedK l k) w p t xs.length _ i).trans ?_)
    show _ = some (Sum.inr (Ex.exit 0, [aBx 2 zD, aBx 5 (sk n l k), aBx 6 [.pv w, .pv p, .pv (pPs t)], aL 7 1 2 (xs ++ []).length ((xs ++ []).map (PV.int .i64))]))
    rw [List.append_nil]
    by_cases h1 : i < t.length
    · rw [dT (show (i : Int) < (t.length : Int) by omega), dF (show ¬ (i : Int) < 8 by omega)]
      rfl
    · rw [dF (show ¬ (i : Int) < (t.length : Int) by omega)]
      rfl
  | c + 1, i, k, xs, hc, hk, hx => by
    have tree := r_Loss_eq n l k (seedK l k) w p t xs.length (xs.map (PV.int .i64)) i
    have s0 := srcOk_mk hw (show k ≤ 1048576 by omega) hn
    have e1 : (k : Int) + 1 = ((k + 1 : Nat) : Int) := by omega
    have b1 : ∀ x : PV, Nat.beq (List.length [x]) (1 * 1) = true := fun _ => rfl
    simp (disch := omega) only [Int.toNat_natCast, s0, e1, b1, dT, wrap1, Bool.true_and, Bool.and_true] at tree
    unfold keepV
    cases h0 : (pickV l k 2 == 0) with
    | true =>
      rw [h0] at tree
      have ih := Loss_loop hw hn w p t c (i + 1) (k + 1) (xs ++ [(i : Int)]) (by omega) (by omega) (by rw [List.length_append, List.length_singleton]; omega)
      have q1 : (xs ++ [(i : Int)]).length = xs.length + 1 := by rw [List.length_append, List.length_singleton]
      have q2 : xs ++ [(i : Int)] ++ (keepV l c (i + 1) (k + 1)).1 = xs ++ ((i : Int) :: (keepV l c (i + 1) (k + 1)).1) := by rw [List.append_assoc]; rfl
      rw [q2, q1, List.map_append (l₁ := xs) (l₂ := [_])] at ih
      rw [if_pos rfl]
      exact .step _ _ _ tree ih
    | false =>
      rw [h0] at tree
      have ih := Loss_loop hw hn w p t c (i + 1) (k + 1) xs (by omega) (by omega) (by omega)
      rw [if_neg Bool.false_ne_true]
      exact .step _ _ _ tree ih
theorem drawW_ok {α : Type} [Inhabited α] {q : Nat → List PV → Option (IV × List (List CV))} {enc : α → IV} {R : α → Prop} {n : Nat} {l : List PV} (h : ∃ r, R r ∧ q n l = some (enc r, [])) : R (drawW q enc R n l) ∧ q n l = some (enc (drawW q enc R n l), []) :=
  @Classical.epsilon_spec α (fun x => R x ∧ q n l = some (enc x, [])) h
theorem dkR.sh {r : Bool × DskT} (h : dkR r) : shDk r.2 := by
  obtain ⟨a1, a2, a3, a4, a5, a6, a7, _⟩ := h
  refine ⟨⟨by omega, by omega⟩, ⟨by omega, fun s hs => by have := a5 s hs; omega⟩, by omega, fun x hx => ?_⟩
  obtain ⟨b1, b2, b3⟩ := a7 x hx
  exact ⟨⟨by omega, by omega⟩, by omega⟩
theorem loss_ok {n : Nat} {l : List PV} (hw : wfB n l = true) (hn : n ≤ 1048577) : lossR (lossV n l) ∧ q_Loss brC n l = some (lossEnc (lossV n l), []) := by
  refine drawW_ok (q := fun n l => q_Loss brC n l) ?_
  have tree := q_Loss_eq n l
  obtain ⟨t1, t2, t3, _⟩ := drawV_ok dk_draw hw hn (k := 0) (by omega)
  have sd := t3.sh
  have s0 : srcOk n l 0 0 = true := srcOk_mk (k := 0) hw (by omega) hn
  obtain ⟨K, hK⟩ : ∃ K, (dkV n l 0).2 = K := ⟨_, rfl⟩
  obtain ⟨D, hD⟩ : ∃ D, (dkV n l 0).1 = D := ⟨_, rfl⟩
  have t1' : K ≤ 1500 := by rw [← hK]; exact t2
  rw [hD] at t3 sd
  have i1 : isPs (pPs D.2.puts) = true := isPs_mk sd.2.2
  have i2 : asPs (pPs D.2.puts) = D.2.puts := asPs_mk _
  have s1 := srcOk_mk hw (show K ≤ 1048576 by omega) hn
  obtain ⟨f1, f2, f3⟩ := keepV_facts l (min D.2.puts.length 8) 0 K
  obtain ⟨Z, hZ⟩ : ∃ Z, Z = keepV l (min D.2.puts.length 8) 0 K := ⟨_, rfl⟩
  rw [← hZ] at f1 f2 f3
  have s2 := srcOk_mk hw (show Z.2 ≤ 1048576 by omega) hn
  have s3 := srcOk_mk hw (show Z.2 + 1 ≤ 1048576 by omega) hn
  have s4 := srcOk_mk hw (show Z.2 + 2 ≤ 1048576 by omega) hn
  have hp := pikK_le (Z.2 + 1) 6
  have s5 := srcOk_mk hw (show pikK (Z.2 + 1) 6 ≤ 1048576 by omega) hn
  have s6 := srcOk_mk hw (show pikK (Z.2 + 1) 6 + 1 ≤ 1048576 by omega) hn
  have e1 : (Z.2 : Int) + 1 = ((Z.2 + 1 : Nat) : Int) := by omega
  have e2 : ((Z.2 + 1 : Nat) : Int) + 1 = ((Z.2 + 2 : Nat) : Int) := by omega
  have e2' : Z.2 + 1 + 1 = Z.2 + 2 := rfl
  have e3 : (pikK (Z.2 + 1) 6 : Int) + 1 = ((pikK (Z.2 + 1) 6 + 1 : Nat) : Int) := by omega
  have b1 : ∀ x : PV, Nat.beq (List.length [x]) (1 * 1) = true := fun _ => rfl
  obtain ⟨a1, a2, a3, a4, a5, a6, a7, _⟩ := t3
  have w1 : IntKind.wrap .i64 (D.2.wide + 2) = D.2.wide + 2 := wrapI (by omega) (by omega)
  obtain ⟨p1, p2⟩ := pik_range hw (Z.2 + 1) (m := 6) (by omega)
  have tor : ∀ j, 0 ≤ pikV l j (D.2.wide + 2) ∧ pikV l j (D.2.wide + 2) < D.2.wide + 2 := fun j => pik_range hw j (by omega)
  have dR : dkR (false, D.2) := ⟨a1, a2, a3, a4, a5, a6, a7, fun h => by cases h⟩
  have kR1 : ∀ x ∈ Z.1, 0 ≤ x ∧ x ≤ 10 := fun x hx => by
    have := f2 x hx
    omega
  have kR2 : ∀ x ∈ Z.1 ++ [pikV l (Z.2 + 1) 6], 0 ≤ x ∧ x ≤ 10 := fun x hx => by
    rcases List.mem_append.1 hx with h | h
    · exact kR1 x h
    · rw [List.mem_singleton.1 h]
      omega
  have l2 : (Z.1 ++ [pikV l (Z.2 + 1) 6]).length = Z.1.length + 1 := by rw [List.length_append, List.length_singleton]
  simp (disch := first | omega | rfl) only [hK, hD, Int.toNat_natCast, i1, i2, ← hZ, s0, s1, s2, s3, s4, s5, s6, e1, e2, e2', e3, b1, w1, nilB_mk, dT, Bool.true_and, Bool.and_true, Nat.beq_refl, beq_self_eq_true] at tree
  cases h0 : (pickV l Z.2 12 == 0) with
  | true =>
    rw [h0] at tree
    cases h1 : (pickV l (pikK (Z.2 + 1) 6) 2 == 0) with
    | true =>
      rw [h1] at tree
      have := tor (pikK (Z.2 + 1) 6 + 1)
      refine ⟨⟨D.2, Z.1 ++ [pikV l (Z.2 + 1) 6], pikV l (pikK (Z.2 + 1) 6 + 1) (D.2.wide + 2)⟩, ⟨dR, by show (Z.1 ++ [pikV l (Z.2 + 1) 6]).length ≤ 9; omega, kR2, by show -1 ≤ pikV l (pikK (Z.2 + 1) 6 + 1) (D.2.wide + 2); omega, by show pikV l (pikK (Z.2 + 1) 6 + 1) (D.2.wide + 2) ≤ 2002; omega⟩, ?_⟩
      unfold lossEnc
      simp only [l2, List.map_append]
      exact tree.trans rfl
    | false =>
      rw [h1] at tree
      refine ⟨⟨D.2, Z.1 ++ [pikV l (Z.2 + 1) 6], -1⟩, ⟨dR, by show (Z.1 ++ [pikV l (Z.2 + 1) 6]).length ≤ 9; omega, kR2, by show (-1 : Int) ≤ -1; omega, by show (-1 : Int) ≤ 2002; omega⟩, ?_⟩
      unfold lossEnc
      simp only [l2, List.map_append]
      exact tree.trans rfl
  | false =>
    rw [h0] at tree
    cases h1 : (pickV l (Z.2 + 1) 2 == 0) with
    | true =>
      rw [h1] at tree
      have := tor (Z.2 + 2)
      exact ⟨⟨D.2, Z.1, pikV l (Z.2 + 2) (D.2.wide + 2)⟩, ⟨dR, by show Z.1.length ≤ 9; omega, kR1, by show -1 ≤ pikV l (Z.2 + 2) (D.2.wide + 2); omega, by show pikV l (Z.2 + 2) (D.2.wide + 2) ≤ 2002; omega⟩, tree.trans rfl⟩
    | false =>
      rw [h1] at tree
      exact ⟨⟨D.2, Z.1, -1⟩, ⟨dR, by show Z.1.length ≤ 9; omega, kR1, by show (-1 : Int) ≤ -1; omega, by show (-1 : Int) ≤ 2002; omega⟩, tree.trans rfl⟩
theorem ok_DLoss : EntryOk Try.prog 12 E_DLoss := entry_ofM mix ok_heb0 (lp := lp_Loss) (LO := LO_Loss) ⟨Try.func12, by kernel_rfl, by kernel_rfl⟩ (by kernel_rfl) fun ivs res bxs h => by
  unfold E_DLoss at h
  split at h
  · rename_i n l
    obtain ⟨hc, he⟩ := pick1 h
    cases he
    simp only [Bool.and_eq_true, decide_eq_true_eq] at hc
    obtain ⟨hw, hn⟩ := hc
    refine ⟨oneLoop 5 (by kernel_rfl) (by kernel_rfl) (by kernel_rfl) ?_, _, (loss_ok hw hn).2, rfl, rfl⟩
    intro ls e ls' hl
    unfold LO_Loss at hl
    split at hl
    · rename_i y z0 x n l a g z w p q v e cn cl i
      obtain ⟨hc, he⟩ := pick1 hl
      cases he
      simp only [Bool.and_eq_true, decide_eq_true_eq, beq_iff_eq] at hc
      obtain ⟨⟨⟨⟨⟨⟨⟨⟨⟨⟨⟨h1, h2⟩, h3⟩, h4⟩, h5⟩, h6⟩, h7⟩, h8⟩, h9⟩, h10⟩, h11⟩, h12⟩ := hc
      obtain ⟨k, rfl, hk, hn, rfl, hw⟩ := srcOk_inv h1
      obtain ⟨t, rfl, ht⟩ := isPs_inv h7
      have e2 : asPs (pPs t) = t := asPs_mk t
      rw [e2, Nat.eq_of_beq_eq_true h3, Nat.eq_of_beq_eq_true h4, Nat.eq_of_beq_eq_true h5, h6, Nat.eq_of_beq_eq_true h8, Nat.eq_of_beq_eq_true h9, Nat.eq_of_beq_eq_true h10, nilB_inv h11, h12, Int.toNat_natCast]
      exact Loss_loop hw hn w p t (min t.length 8) 0 k [] rfl (by omega) (Nat.le_refl _)
    · cases hl
  · cases h
theorem rot_ok {n : Nat} {l : List PV} (hw : wfB n l = true) (hn : n ≤ 1048577) : rotR (rotV n l) ∧ q_Rot brC n l = some (rotEnc (rotV n l), []) := by
  refine drawW_ok (q := fun n l => q_Rot brC n l) ?_
  have tree := q_Rot_eq n l
  obtain ⟨t1, t2, t3, _⟩ := drawV_ok dk_draw hw hn (k := 0) (by omega)
  have s0 : srcOk n l 0 0 = true := srcOk_mk (k := 0) hw (by omega) hn
  obtain ⟨K, hK⟩ : ∃ K, (dkV n l 0).2 = K := ⟨_, rfl⟩
  obtain ⟨D, hD⟩ : ∃ D, (dkV n l 0).1 = D := ⟨_, rfl⟩
  have t1' : K ≤ 1500 := by rw [← hK]; exact t2
  rw [hD] at t3
  obtain ⟨a1, a2, a3, a4, a5, a6, a7, _⟩ := t3
  have s1 := srcOk_mk hw (show K ≤ 1048576 by omega) hn
  have hp := pikK_le K 6
  have s2 := srcOk_mk hw (show pikK K 6 ≤ 1048576 by omega) hn
  have w1 : IntKind.wrap .i64 (D.2.wide + 1) = D.2.wide + 1 := wrapI (by omega) (by omega)
  have hp2 := pikK_le (pikK K 6) (D.2.wide + 1)
  have s3 := srcOk_mk hw (show pikK (pikK K 6) (D.2.wide + 1) ≤ 1048576 by omega) hn
  obtain ⟨p1, p2⟩ := pik_range hw K (m := 6) (by omega)
  obtain ⟨p3, p4⟩ := pik_range hw (pikK K 6) (m := D.2.wide + 1) (by omega)
  obtain ⟨p5, p6⟩ := pik_range hw (pikK (pikK K 6) (D.2.wide + 1)) (m := 257) (by omega)
  have dR : dkR (false, D.2) := ⟨a1, a2, a3, a4, a5, a6, a7, fun h => by cases h⟩
  simp (disch := first | omega | rfl) only [hK, hD, Int.toNat_natCast, s0, s1, s2, s3, w1, dT, Bool.true_and, Bool.and_true] at tree
  exact ⟨⟨D.2, pikV l K 6, pikV l (pikK K 6) (D.2.wide + 1), pikV l (pikK (pikK K 6) (D.2.wide + 1)) 257⟩, ⟨dR, p1, by show pikV l K 6 ≤ 10; omega, p3, by show pikV l (pikK K 6) (D.2.wide + 1) ≤ 2002; omega, p5, by show pikV l (pikK (pikK K 6) (D.2.wide + 1)) 257 ≤ 300; omega⟩, tree.trans rfl⟩
theorem ok_DRot : EntryOk Try.prog 18 E_DRot := entry_of mix ok_heb0 (lp := []) (LO := LO0) ⟨Try.func18, by kernel_rfl, by kernel_rfl⟩ (by kernel_rfl) fun ivs res bxs h => by
  unfold E_DRot at h
  split at h
  · rename_i n l
    obtain ⟨hc, he⟩ := pick1 h
    cases he
    simp only [Bool.and_eq_true, decide_eq_true_eq] at hc
    exact ⟨noLoop (by kernel_rfl), (rot_ok hc.1 hc.2).2⟩
  · cases h
end Go.Proofs.Ytjbjgeekglpmlaa
