/- Draws, by the reckoner: proofs. -/
import Derived.Test.YtdegegajoccdjaaDrT
namespace Go.Proofs.Ytdegegajoccdjaa
open Go.RowKit
set_option linter.unusedVariables false
set_option linter.unusedSimpArgs false

theorem wfB_inv {n : Nat} {l : List PV} (h : wfB n l = true) : l.length = n ∧ ∀ p ∈ l, p.isInt .u8 = true ∧ 0 ≤ p.asInt ∧ p.asInt < 256 := by
  unfold wfB at h
  rw [Bool.and_eq_true] at h
  refine ⟨Nat.eq_of_beq_eq_true h.1, fun p hp => ?_⟩
  have := List.all_eq_true.1 h.2 p hp
  simp only [Bool.and_eq_true, decide_eq_true_eq] at this
  exact ⟨this.1.1, this.1.2, this.2⟩
theorem srcOk_inv {n : Nat} {l : List PV} {a g : Int} (h : srcOk n l a g = true) : ∃ k : Nat, a = k ∧ k ≤ 1048576 ∧ n ≤ 1048577 ∧ g = seedK l k ∧ wfB n l = true := by
  unfold srcOk at h
  simp only [Bool.and_eq_true, decide_eq_true_eq, beq_iff_eq] at h
  obtain ⟨⟨⟨⟨h1, h2⟩, h3⟩, h4⟩, h5⟩ := h
  exact ⟨a.toNat, by omega, by omega, h4, h5, h1⟩
theorem ok_from : EntryOk Try.prog 16 E_from := entry_of mix (tab := []) trivial (lp := []) (LO := LO0) ⟨Try.func16, by kernel_rfl, by kernel_rfl⟩ (by kernel_rfl) fun ivs res bxs h => by
  unfold E_from at h
  split at h
  · rename_i n l
    cases h
    exact ⟨noLoop (by kernel_rfl), q_from_eq n l⟩
  · cases h
theorem ok_next : EntryOk Try.prog 52 E_next := entry_of mix (tab := []) trivial (lp := []) (LO := LO0) ⟨Try.func52, by kernel_rfl, by kernel_rfl⟩ (by kernel_rfl) fun ivs res bxs h => by
  unfold E_next at h
  split at h
  · rename_i n l a g
    obtain ⟨hc, he⟩ := pick1 h
    cases he
    obtain ⟨k, rfl, hk, hn, rfl, hw⟩ := srcOk_inv hc
    obtain ⟨hl, hp⟩ := wfB_inv hw
    refine ⟨noLoop (by kernel_rfl), (q_next_eq n l k _).trans ?_⟩
    by_cases hlt : k < n
    · have hlt' : k < l.length := by omega
      have hd : l.drop k = l[k] :: l.drop (k + 1) := List.drop_eq_getElem_cons hlt'
      obtain ⟨h1, h2, h3⟩ := hp l[k] (List.getElem_mem hlt')
      have hb : Nat.blt 0 ((l.drop (k + 1)).length + 1) = true := by simp [Nat.blt]
      have hbk : byteK l k = IntKind.wrap .i64 l[k].asInt := by unfold byteK; rw [if_pos hlt', hd]; rfl
      have hdk : drawK l k = byteK l k := by unfold drawK; rw [if_pos hlt']
      have hsk : seedK l (k + 1) = seedS (seedK l k) (byteK l k) := rfl
      have w1 : IntKind.wrap .i64 ((k : Int) + 1) = (k : Int) + 1 := wrapI (by omega) (by omega)
      rw [Int.toNat_natCast, hdk, hsk, hbk]
      simp (disch := omega) only [dT, dF, w1, Int.toNat_natCast, Nat.mul_one, hd, List.length_cons, List.headD_cons, h1, hb, Bool.and_true]
      rfl
    · have hge : ¬ k < l.length := by omega
      have hbk : byteK l k = 0 := by unfold byteK; rw [if_neg hge]
      have hsk : seedK l (k + 1) = seedS (seedK l k) 0 := by show seedS (seedK l k) (byteK l k) = _; rw [hbk]
      have hdk : drawK l k = IntKind.wrap .i64 (bits .and .u64 ((seedS (seedK l k) 0).fdiv (2 ^ 40)) 255) := by unfold drawK; rw [if_neg hge, hsk]
      have w1 : IntKind.wrap .i64 ((k : Int) + 1) = (k : Int) + 1 := wrapI (by omega) (by omega)
      rw [Int.toNat_natCast, hdk, hsk]
      simp (disch := omega) only [dT, dF, w1]
      rfl
  · cases h
theorem ok_dab0 : EntriesOk Try.prog dab0 := ⟨ok_from, ok_next, trivial⟩
theorem wrap_u64_range (x : Int) : 0 ≤ IntKind.wrap .u64 x ∧ IntKind.wrap .u64 x ≤ 18446744073709551615 := by
  have e : IntKind.wrap .u64 x = x % 18446744073709551616 := by unfold IntKind.wrap; rfl
  rw [e]
  omega
theorem drawK_range {n : Nat} {l : List PV} (hw : wfB n l = true) (k : Nat) : 0 ≤ drawK l k ∧ drawK l k ≤ 255 := by
  obtain ⟨hl, hp⟩ := wfB_inv hw
  unfold drawK
  by_cases h : k < l.length
  · rw [if_pos h]
    unfold byteK
    rw [if_pos h, List.drop_eq_getElem_cons h]
    obtain ⟨h1, h2, h3⟩ := hp l[k] (List.getElem_mem h)
    show 0 ≤ IntKind.wrap .i64 l[k].asInt ∧ IntKind.wrap .i64 l[k].asInt ≤ 255
    rw [wrapI (by omega) (by omega)]
    omega
  · rw [if_neg h]
    have hs : 0 ≤ (seedK l (k + 1)).fdiv (2 ^ 40) ∧ (seedK l (k + 1)).fdiv (2 ^ 40) ≤ 18446744073709551615 := by
      have := wrap_u64_range (IntKind.wrap .u64 (IntKind.wrap .u64 (seedK l k * 6364136223846793005) + IntKind.wrap .u64 (byteK l k)) + 1442695040888963407)
      have e : seedK l (k + 1) = IntKind.wrap .u64 (IntKind.wrap .u64 (IntKind.wrap .u64 (seedK l k * 6364136223846793005) + IntKind.wrap .u64 (byteK l k)) + 1442695040888963407) := rfl
      rw [← e] at this
      rw [Int.fdiv_eq_ediv_of_nonneg _ (by decide)]
      omega
    obtain ⟨x, hx⟩ := Int.eq_ofNat_of_zero_le hs.1
    have hb : bits .and .u64 (x : Int) 255 = ((x &&& 255 : Nat) : Int) := bits_and_u64_nat x 255 (by omega) (by omega)
    rw [hx, hb]
    have hle : x &&& 255 ≤ 255 := Nat.and_le_right
    rw [wrapI (by omega) (by omega)]
    omega
theorem pickV_range {n : Nat} {l : List PV} (hw : wfB n l = true) (k : Nat) {m : Int} (hm : 1 ≤ m) : 0 ≤ pickV l k m ∧ pickV l k m < m := by
  have := drawK_range hw k
  unfold pickV
  exact ⟨Int.tmod_nonneg _ this.1, Int.tmod_lt_of_pos _ (by omega)⟩
theorem ok_pick : EntryOk Try.prog 32 E_pick := entry_of mix ok_dab0 (lp := []) (LO := LO0) ⟨Try.func32, by kernel_rfl, by kernel_rfl⟩ (by kernel_rfl) fun ivs res bxs h => by
  unfold E_pick at h
  split at h
  · rename_i n l a g m
    refine ⟨noLoop (by kernel_rfl), (q_pick_eq n l a g m).trans ?_⟩
    rcases pick2 h with ⟨hc, he⟩ | ⟨hc1, hc, he⟩
    · cases he
      rw [hc]; rfl
    · cases he
      rw [Bool.and_eq_true] at hc
      have h1 := of_decide_eq_true hc.2
      have h2 : (m != 0) = true := by have := of_decide_eq_false hc1; simp; omega
      rw [hc1, hc.1, decide_eq_false (show ¬ m > 200 by omega), h2]
      rfl
  · cases h
theorem ok_dab1 : EntriesOk Try.prog dab1 := ⟨ok_pick, ok_dab0⟩
theorem ok_text : EntryOk Try.prog 34 E_text := entry_of mix ok_dab1 (lp := []) (LO := LO0) ⟨Try.func34, by kernel_rfl, by kernel_rfl⟩ (by kernel_rfl) fun ivs res bxs h => by
  unfold E_text at h
  split at h
  · rename_i n l a g nt t
    obtain ⟨hc, he⟩ := pick1 h
    cases he
    rw [Bool.and_eq_true] at hc
    obtain ⟨k, rfl, hk, hn, rfl, hw⟩ := srcOk_inv hc.1
    have ht := hc.2
    unfold wfT at ht
    simp only [Bool.and_eq_true, decide_eq_true_eq] at ht
    obtain ⟨⟨⟨t1, t2⟩, t3⟩, t4⟩ := ht
    have hlen := Nat.eq_of_beq_eq_true t1
    obtain ⟨r1, r2⟩ := pickV_range hw k (m := (nt : Int)) (by omega)
    refine ⟨noLoop (by kernel_rfl), (q_text_eq n l k _ nt t).trans ?_⟩
    have hlt : (pickV l k nt).toNat < t.length := by omega
    have hd : t.drop (pickV l k nt).toNat = t[(pickV l k nt).toNat] :: t.drop ((pickV l k nt).toNat + 1) := List.drop_eq_getElem_cons hlt
    have hs := List.all_eq_true.1 t2 _ (List.getElem_mem hlt)
    have hb : Nat.blt 0 ((t.drop ((pickV l k nt).toNat + 1)).length + 1) = true := by simp [Nat.blt]
    have htv : textV l k t = t[(pickV l k nt).toNat].asStr := by unfold textV; rw [hlen, hd]; rfl
    rw [Int.toNat_natCast, htv]
    simp (disch := omega) only [dT, dF, hc.1, Int.toNat_natCast, Nat.mul_one, hd, List.length_cons, List.headD_cons, hs, hb, Bool.and_true]
    rfl
  · cases h
theorem ok_dab2 : EntriesOk Try.prog dab2 := ⟨ok_text, ok_dab1⟩
theorem ok_one : EntryOk Try.prog 35 E_one := entry_of mix ok_dab1 (lp := []) (LO := LO0) ⟨Try.func35, by kernel_rfl, by kernel_rfl⟩ (by kernel_rfl) fun ivs res bxs h => by
  unfold E_one at h
  split at h
  · rename_i n l a g m
    obtain ⟨hc, he⟩ := pick1 h
    cases he
    simp only [Bool.and_eq_true, decide_eq_true_eq] at hc
    refine ⟨noLoop (by kernel_rfl), (q_one_eq n l a g m).trans ?_⟩
    rw [dF (show ¬ m ≤ 1 by omega), hc.1.1, dT hc.1.2]
    rfl
  · cases h
theorem ok_among : EntryOk Try.prog 33 E_among := entry_of mix ok_dab1 (lp := []) (LO := LO0) ⟨Try.func33, by kernel_rfl, by kernel_rfl⟩ (by kernel_rfl) fun ivs res bxs h => by
  unfold E_among at h
  split at h
  · rename_i n l a g nt t
    obtain ⟨hc, he⟩ := pick1 h
    cases he
    rw [Bool.and_eq_true] at hc
    obtain ⟨k, rfl, hk, hn, rfl, hw⟩ := srcOk_inv hc.1
    have ht := hc.2
    unfold wfI at ht
    simp only [Bool.and_eq_true, decide_eq_true_eq] at ht
    obtain ⟨⟨⟨t1, t2⟩, t3⟩, t4⟩ := ht
    have hlen := Nat.eq_of_beq_eq_true t1
    obtain ⟨r1, r2⟩ := pickV_range hw k (m := (nt : Int)) (by omega)
    refine ⟨noLoop (by kernel_rfl), (q_among_eq n l k _ nt t).trans ?_⟩
    have hlt : (pickV l k nt).toNat < t.length := by omega
    have hd : t.drop (pickV l k nt).toNat = t[(pickV l k nt).toNat] :: t.drop ((pickV l k nt).toNat + 1) := List.drop_eq_getElem_cons hlt
    have hs := List.all_eq_true.1 t2 _ (List.getElem_mem hlt)
    have hb : Nat.blt 0 ((t.drop ((pickV l k nt).toNat + 1)).length + 1) = true := by simp [Nat.blt]
    have htv : amongV l k t = t[(pickV l k nt).toNat].asInt := by unfold amongV; rw [hlen, hd]; rfl
    rw [Int.toNat_natCast, htv]
    simp (disch := omega) only [dT, dF, hc.1, Int.toNat_natCast, Nat.mul_one, hd, List.length_cons, List.headD_cons, hs, hb, Bool.and_true]
    rfl
  · cases h
/-- What the draws may be called with. -/
def dab5 : List (FuncId × Entry) := (35, E_one) :: (33, E_among) :: dab2
theorem ok_dab5 : EntriesOk Try.prog dab5 := ⟨ok_one, ok_among, ok_dab2⟩
theorem srcOk_mk {n : Nat} {l : List PV} {k : Nat} (hw : wfB n l = true) (hk : k ≤ 1048576) (hn : n ≤ 1048577) : srcOk n l k (seedK l k) = true := by
  unfold srcOk
  rw [hw, Int.toNat_natCast, dT (show (0 : Int) ≤ (k : Int) by omega), dT (show (k : Int) ≤ 1048576 by omega), dT hn, beq_self_eq_true]
  rfl
theorem text_size {t : List PV} {m : Nat} (h : t.all (fun p => Nat.ble p.asStr.size m) = true) (l : List PV) (k : Nat) : (textV l k t).size ≤ m := by
  unfold textV
  generalize (pickV l k t.length).toNat = j
  rcases Nat.lt_or_ge j t.length with hj | hj
  · rw [List.drop_eq_getElem_cons hj]
    exact Nat.le_of_ble_eq_true (List.all_eq_true.1 h _ (List.getElem_mem hj))
  · rw [List.drop_eq_nil_of_le hj]
    exact Nat.zero_le _
/-! A draw by what is known of it: its result, chosen. -/
def DrawOk {α : Type} (q : Nat → List PV → Nat → Option (IV × List (List CV))) (enc : α → IV) (R : α → Prop) (c K : Nat) : Prop :=
  ∀ n l k, wfB n l = true → n ≤ 1048577 → k ≤ K → ∃ (r : α) (k' : Nat), k ≤ k' ∧ k' ≤ k + c ∧ R r ∧ q n l k = some (enc r, [sk n l k'])
noncomputable def drawV {α : Type} [Inhabited α] (q : Nat → List PV → Nat → Option (IV × List (List CV))) (enc : α → IV) (R : α → Prop) (c : Nat) (n : Nat) (l : List PV) (k : Nat) : α × Nat :=
  @Classical.epsilon (α × Nat) ⟨default⟩ fun x => k ≤ x.2 ∧ x.2 ≤ k + c ∧ R x.1 ∧ q n l k = some (enc x.1, [sk n l x.2])
theorem drawV_ok {α : Type} [Inhabited α] {q : Nat → List PV → Nat → Option (IV × List (List CV))} {enc : α → IV} {R : α → Prop} {c K n : Nat} {l : List PV} {k : Nat} (h : DrawOk q enc R c K) (hw : wfB n l = true) (hn : n ≤ 1048577) (hk : k ≤ K) :
    k ≤ (drawV q enc R c n l k).2 ∧ (drawV q enc R c n l k).2 ≤ k + c ∧ R (drawV q enc R c n l k).1 ∧ q n l k = some (enc (drawV q enc R c n l k).1, [sk n l (drawV q enc R c n l k).2]) := by
  obtain ⟨r, k', h1, h2, h3, h4⟩ := h n l k hw hn hk
  exact @Classical.epsilon_spec (α × Nat) (fun x => k ≤ x.2 ∧ x.2 ≤ k + c ∧ R x.1 ∧ q n l k = some (enc x.1, [sk n l x.2])) ⟨(r, k'), h1, h2, h3, h4⟩
end Go.Proofs.Ytdegegajoccdjaa
