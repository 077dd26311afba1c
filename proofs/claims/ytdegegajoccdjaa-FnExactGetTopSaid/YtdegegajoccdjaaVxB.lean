/- strings.Builder for the reckoner: what its copy check does. -/
import Derived.Test.YtdegegajoccdjaaVxC
import Derived.Test.YtdegegajoccdjaaVxE
import Derived.Lib.Builder
import Derived.Lib.UnsafeStr
namespace Go.Proofs.Ytdegegajoccdjaa
open Go.RowKit
set_option linter.unusedVariables false
set_option linter.unusedSimpArgs false

theorem locS_nil {b t T : Nat} {v : Value} (h : locS noL (b, t) (4 * T + 3) = some v) : t = T ∧ v = .pointer none := by
  unfold locS at h
  rw [show (4 * T + 3) % 2 = 1 by omega, show (4 * T + 3) / 4 = T by omega, show (4 * T + 3) % 4 = 3 by omega] at h
  cases hb : Nat.beq T t with
  | false => rw [show Nat.beq 1 0 = false from rfl, hb] at h; cases h
  | true => rw [show Nat.beq 1 0 = false from rfl, hb] at h; cases h; exact ⟨(Nat.eq_of_beq_eq_true hb).symm, rfl⟩
theorem locS_own {b t T : Nat} {v : Value} (h : locS noL (b, t) (4 * T + 1) = some v) : t = T ∧ v = .pointer (some ⟨b, 0, none⟩) := by
  unfold locS at h
  rw [show (4 * T + 1) % 2 = 1 by omega, show (4 * T + 1) / 4 = T by omega, show (4 * T + 1) % 4 = 1 by omega] at h
  cases hb : Nat.beq T t with
  | false => rw [show Nat.beq 1 0 = false from rfl, hb] at h; cases h
  | true => rw [show Nat.beq 1 0 = false from rfl, hb] at h; cases h; exact ⟨(Nat.eq_of_beq_eq_true hb).symm, rfl⟩
theorem locS_mk (loc : Nat → Option Value) (b T : Nat) : locS loc (b, T) (4 * T + 1) = some (.pointer (some ⟨b, 0, none⟩)) := by
  unfold locS
  rw [show (4 * T + 1) % 2 = 1 by omega, show (4 * T + 1) / 4 = T by omega, show (4 * T + 1) % 4 = 1 by omega, show Nat.beq T T = true from Nat.beq_refl T]
  rfl
theorem bld_size : (Try.prog.info? 83).map (·.size) = some 2 := by kernel_rfl
theorem bld_lies : liesAt Try.prog Try.prog.depth 83 (2 / Try.prog.cellsOf 83) 0 83 1 = true := by kernel_rfl
set_option maxHeartbeats 1000000 in
set_option maxRecDepth 100000 in
theorem copyCheck_used (b : Nat) (w : World) (h0 : w.cell? ⟨b, 0, none⟩ = some (.pointer (some ⟨b, 0, none⟩))) :
    Calls Try.prog 59 #[.pointer (some ⟨b, 0, none⟩)] w fun e w' => e = .returned (.tuple #[]) ∧ w' = w := by
  obtain ⟨j, hj, _⟩ := Option.map_eq_some_iff.1 bld_size
  go_enter Try.func59, Try.ntmps59
  go_wp2
  rw [Lib.run_neq_ptr_same w _ Try.underlying81 hj]
  go_wp2
  go_end0
  exact ⟨rfl, rfl⟩
set_option maxHeartbeats 1000000 in
set_option maxRecDepth 100000 in
theorem copyCheck_fresh (b : Nat) (w : World) (h0 : w.cell? ⟨b, 0, none⟩ = some (.pointer none)) (hsh : w.shape? b = some (83, 2)) (hfz : w.frozen? ⟨b, 0, none⟩ = false) :
    Calls Try.prog 59 #[.pointer (some ⟨b, 0, none⟩)] w fun e w' => e = .returned (.tuple #[]) ∧ w' = w.setCell ⟨b, 0, none⟩ (.pointer (some ⟨b, 0, none⟩)) := by
  obtain ⟨j, hj, hjs⟩ := Option.map_eq_some_iff.1 bld_size
  go_enter Try.func59, Try.ntmps59
  go_wp2
  rw [Lib.run_to_unsafe w ⟨b, 0, none⟩ Try.underlying81 Try.underlying102 hj (by rw [hjs]; decide) hsh (Nat.zero_lt_succ 1)]
  simp only [Result.andThen]
  rw [Oper.upon_value]
  go_wp2
  rw [run_callFunc_extern Try.func66 (by kernel_rfl) (by kernel_rfl) (by kernel_rfl) (e := Extern.AbiNoEscape.same) (by kernel_rfl)]
  rw [Lib.run_noEscape]
  simp only [Result.andThen]
  rw [Oper.upon_value]
  go_wp2
  rw [Lib.run_from_unsafe w ⟨b, 0, none⟩ Try.underlying102 Try.underlying81 hj hsh bld_lies]
  simp only [Result.andThen]
  rw [Oper.upon_value]
  go_wp2
  go_end0
  exact ⟨rfl, rfl⟩
/-! The contract of the copy check: a builder that is new or was written. -/
abbrev bldT : Nat := 83
noncomputable def E_copyCheck : Entry := fun ivs => match ivs with
  | [.box 0 [.al a, c]] => [(Nat.beq a (4 * bldT + 3) || Nat.beq a (4 * bldT + 1), .tup [], [[.al (4 * bldT + 1), c]])]
  | _ => []
theorem box2_inv {w : World} {com : Nat → Nat} {loc : Nat → Option Value} {cur : List Value} {c1 c2 : CV} {bs : List Nat} (h : CReps w com loc cur [c1, c2] bs) :
    ∃ v1 v2 b1 b2, cur = [v1, v2] ∧ bs = b1 ++ b2 ∧ CRep w com loc v1 c1 b1 ∧ CRep w com loc v2 c2 b2 ∧ v1.oneCell' = true ∧ v2.oneCell' = true := by
  cases h with
  | @cons v1 _ b1 _ _ _ h1 o1 k =>
    cases k with
    | @cons v2 _ b2 _ _ _ h2 o2 k2 =>
      cases k2
      exact ⟨v1, v2, b1, b2, rfl, by rw [List.append_nil], h1, h2, o1, o2⟩
theorem al_inv {w : World} {com : Nat → Nat} {loc : Nat → Option Value} {v : Value} {d : Nat} {bs : List Nat} (h : CRep w com loc v (.al d) bs) : loc d = some v ∧ bs = [] := by
  cases h with
  | al d h => exact ⟨h, rfl⟩
/-- A contract of a function of one box of two cells. -/
theorem contract_box2 {P : Program} {g : FuncId} {c1 c2 c1' c2' : CV} {res : IV} (h : ∀ (w : World) (com : Nat → Nat) (b t : Nat) (v1 v2 : Value) (b1 b2 : List Nat), w.heap[b]? = some (.cells #[v1, v2] t (0, 0)) → com b = 0 → CRep w com (locS noL (b, t)) v1 c1 b1 → CRep w com (locS noL (b, t)) v2 c2 b2 → v1.oneCell' = true → v2.oneCell' = true → (b :: (b1 ++ b2)).Nodup → (∀ b, w.heap.size ≤ b → com b = 0) →
    Calls P g #[.pointer (some ⟨b, 0, none⟩)] w fun e w' => ∃ v com' v1' v2' b1' b2', e = .returned v ∧ Ext w com w' com' ∧ Fr w.heap.size (fun x => x ∈ b :: (b1 ++ b2)) w w' ∧ (∀ b, w'.heap.size ≤ b → com' b = 0) ∧ (∀ x, x < w.heap.size → x ∉ b :: (b1 ++ b2) → com' x = com x) ∧
      RRep w' com' v res [] ∧ w'.heap[b]? = some (.cells #[v1', v2'] t (0, 0)) ∧ com' b = 0 ∧ CRep w' com' (locS noL (b, t)) v1' c1' b1' ∧ CRep w' com' (locS noL (b, t)) v2' c2' b2' ∧ v1'.oneCell' = true ∧ v2'.oneCell' = true ∧ (b :: (b1' ++ b2')).Nodup ∧ ∀ x ∈ b1' ++ b2', x ∈ b1 ++ b2 ∨ w.heap.size ≤ x) :
    Contract P g [.box 0 [c1, c2]] res [[c1', c2']] := by
  intro w com vals bs hI hnd hfresh hgl
  cases hI with
  | cons h1 h2 =>
    cases h2
    cases h1 with
    | box b o cur t l bs hb hc hC =>
      obtain ⟨v1, v2, b1, b2, rfl, rfl, r1, r2, o1, o2⟩ := box2_inv hC
      rw [List.append_nil] at hnd
      refine (h w com b t v1 v2 b1 b2 hb hc r1 r2 o1 o2 hnd hfresh).mono ?_
      rintro e w' ⟨v, com', v1', v2', b1', b2', rfl, hx, hf, hfr, hk, hr, hb', hc', r1', r2', o1', o2', hnd', hwas⟩
      refine ⟨v, com', [], b :: (b1' ++ b2') ++ [], rfl, hx, by simpa using hf, hfr, by simpa using hk, hr, .box b 0 [v1', v2'] t _ _ (b1' ++ b2') [] [] [] [] hb' hc' ?_ .nil, by simpa using hnd', fun x hx' => ?_⟩
      · have := CReps.cons r1' o1' (CReps.cons r2' o2' (CReps.nil (w := w') (com := com') (loc := locS noL (b, t))))
        simpa using this
      · simp only [List.nil_append, List.append_nil, List.mem_cons] at hx' ⊢
        rcases hx' with rfl | hx'
        · exact .inl (.inl rfl)
        · exact (hwas x hx').imp .inr id
theorem ok_copyCheck : EntryOk Try.prog 59 E_copyCheck := ⟨⟨_, Try.func59, by kernel_rfl, by kernel_rfl⟩, fun ivs res bxs h => by
  unfold E_copyCheck at h
  split at h
  · rename_i a c
    obtain ⟨hc, he⟩ := pick1 h
    cases he
    rw [Bool.or_eq_true] at hc
    refine contract_box2 fun w com b t v1 v2 b1 b2 hb hcb r1 r2 o1 o2 hnd hfresh => ?_
    obtain ⟨hd, rfl⟩ := al_inv r1
    rw [List.nil_append] at hnd ⊢
    have hlt : b < w.heap.size := (Array.getElem?_eq_some_iff.1 hb).1
    have hfz : w.frozen? ⟨b, 0, none⟩ = false := by
      unfold World.frozen?
      rw [hb]
      rfl
    have h0 : w.cell? ⟨b, 0, none⟩ = some v1 := by rw [cell_of_row w b 0 _ t (0, 0) hb]; rfl
    rcases hc with hc | hc
    · obtain rfl := Nat.eq_of_beq_eq_true hc
      obtain ⟨rfl, rfl⟩ := locS_nil hd
      refine (copyCheck_fresh b w h0 (by unfold World.shape?; rw [hb]; rfl) hfz).mono ?_
      rintro e w' ⟨rfl, rfl⟩
      rw [setCell_eq_setRow w b 0 _ _ _ _ hb]
      have hrow := setRow_heap w b _ (#[Value.pointer none, v2].setIfInBounds 0 (.pointer (some ⟨b, 0, none⟩))) _ _ hb
      have hother : ∀ x, x ≠ b → (w.setRow b (#[Value.pointer none, v2].setIfInBounds 0 (.pointer (some ⟨b, 0, none⟩)))).heap[x]? = w.heap[x]? := fun x hx => setRow_other w b x _ hx
      have hx : Ext w com (w.setRow b (#[Value.pointer none, v2].setIfInBounds 0 (.pointer (some ⟨b, 0, none⟩)))) com := ⟨fun _ => Nat.le_refl _, fun x i hi => by
        have : x ≠ b := fun e => by rw [e, hcb] at hi; cases hi
        unfold World.cell?
        rw [hother x this]⟩
      refine ⟨_, com, .pointer (some ⟨b, 0, none⟩), v2, [], b2, rfl, hx, ⟨rfl, rfl, rfl, by simp [World.setRow], fun x hx' hn => hother x fun e => hn (by rw [e]; simp)⟩, fun x hx' => hfresh x (by simpa [World.setRow] using hx'), fun _ _ _ => rfl, .tup [] [] [] .nil, hrow, hcb, .al _ _ (locS_mk _ _ _), ?_, rfl, o2, by simpa using hnd, fun x hx' => .inl hx'⟩
      exact r2.keep hx (fun _ _ h => h) fun x hx' => ⟨hother x fun e => (List.nodup_cons.1 hnd).1 (e ▸ hx'), rfl⟩
    · obtain rfl := Nat.eq_of_beq_eq_true hc
      obtain ⟨rfl, rfl⟩ := locS_own hd
      refine (copyCheck_used b w h0).mono ?_
      rintro e w' ⟨rfl, rfl⟩
      exact ⟨_, com, _, v2, [], b2, rfl, Ext.refl _ _, Fr.refl _ _ _, hfresh, fun _ _ _ => rfl, .tup [] [] [] .nil, hb, hcb, .al _ _ (locS_mk _ _ _), r2, o1, o2, by simpa using hnd, fun x hx' => .inl hx'⟩
  · cases h⟩
/-! Bytes as the cells of a row. -/
abbrev pBy (s : ByteArray) : PV := .sl s.size (bytesP s)
theorem byteP_inj {a b : UInt8} (h : byteP a = byteP b) : a = b := by
  unfold byteP at h
  injection h with _ h
  exact UInt8.toNat_inj.1 (Int.ofNat.inj h)
theorem map_byte_inj : ∀ {xs ys : List UInt8}, xs.map byteP = ys.map byteP → xs = ys
  | [], [], _ => rfl
  | [], _ :: _, h => by cases h
  | _ :: _, [], h => by cases h
  | x :: xs, y :: ys, h => by
    rw [List.map_cons, List.map_cons] at h
    injection h with h1 h2
    rw [byteP_inj h1, map_byte_inj h2]
theorem pBy_inj (a b : ByteArray) (h : pBy a = pBy b) : a = b := by
  injection h with _ h
  have := map_byte_inj h
  cases a
  cases b
  congr 1
  exact Array.toList_inj.1 this
def shBy (s : ByteArray) : Prop := s.size ≤ 100000000
noncomputable abbrev isBy (p : PV) : Bool := isE pBy shBy p
noncomputable abbrev asBy (p : PV) : ByteArray := asE pBy p
theorem isBy_mk {s : ByteArray} (h : shBy s) : isE pBy shBy (PV.sl s.size (bytesP s)) = true := isE_mk (enc := pBy) h
theorem asBy_mk (s : ByteArray) : asE pBy (PV.sl s.size (bytesP s)) = s := asE_mk pBy_inj s
theorem bytesP_len (s : ByteArray) : (bytesP s).length = s.size := by unfold bytesP; rw [List.length_map]; rfl
theorem bytesP_app (s t : ByteArray) : bytesP s ++ bytesP t = bytesP (s ++ t) := by
  unfold bytesP
  rw [← List.map_append]
  congr 1
/-- A builder that was written: what was written. -/
noncomputable abbrev bldB (s : ByteArray) : List CV := [.al (4 * bldT + 1), .lst 1 5 s.size (bytesP s) false]
abbrev bld0 : List CV := [.al (4 * bldT + 3), .pv .nils]
noncomputable abbrev okA (a : Nat) : Bool := Nat.beq a (4 * bldT + 3) || Nat.beq a (4 * bldT + 1)
noncomputable def E_bldString : Entry := fun ivs => match ivs with
  | [.box 0 [.al a, .lst 1 e n l false]] => [(Nat.beq e 5 && isBy (.sl n l) && Nat.ble 1 n, cS (asBy (.sl n l)), [[.bad, .bad]])]
  | _ => []
theorem cells_of_bytes {w : World} {com : Nat → Nat} : ∀ {l : List UInt8} {xs : List Value}, PReps w com xs (l.map byteP) → xs = Lib.byteCells l
  | [], xs, h => h.of_nil
  | c :: l, xs, h => by
    obtain ⟨v, vs, rfl, hv, hvs⟩ := h.of_cons
    have e : v = .int .u8 (c.toNat : Int) := by
      unfold byteP at hv
      cases hv
      rfl
    rw [e, cells_of_bytes hvs]
    rfl
set_option maxHeartbeats 1000000 in
set_option maxRecDepth 100000 in
theorem bldString_row (b g cap t : Nat) (p : Value) (l : List UInt8) (cur : Array Value) (fz : Nat × Nat) (w : World) (hbk : w.heap[b]? = some (.cells #[p, .slice (some ⟨g, 0, none⟩) l.length cap] t (0, 0))) (hg : w.heap[g]? = some (.cells cur 5 fz))
    (h0 : l ≠ []) (hn : l.length ≤ cap) (hm : cap ≤ maxLen) (hcs : cur.size = cap) (ht : cur.toList.take l.length = Lib.byteCells l) :
    Calls Try.prog 50 #[.pointer (some ⟨b, 0, none⟩)] w fun e w' => e = .returned (.string ⟨l.toArray⟩) ∧ w' = w.drew.freeze ⟨g, 0, none⟩ l.length := by
  have hl0 : l.length ≠ 0 := by simpa using h0
  have c1 : w.drew.cell? ⟨b, 1, none⟩ = some (.slice (some ⟨g, 0, none⟩) l.length cap) := by
    rw [cell_of_row w.drew b 1 _ t (0, 0) hbk]; rfl
  have hSD : (Builtin.unsafeSliceData_ #[22] 97 #[.slice (some ⟨g, 0, none⟩) l.length cap]).run Try.prog w.drew = .ok (.pointer (some ⟨g, 0, none⟩)) w.drew :=
    Lib.run_unsafeSliceData_row _ _ _ _ _ _ (by omega)
  have hUS : (Builtin.unsafeString_ #[97, 3] 9 #[.pointer (some ⟨g, 0, none⟩), .int .i64 l.length]).run Try.prog w.drew = .ok (.string ⟨l.toArray⟩) (w.drew.freeze ⟨g, 0, none⟩ l.length) := by
    refine Lib.run_unsafeString_row w.drew 97 3 9 5 Try.underlying97 (by kernel_rfl) g cur.size (by have hg' : w.drew.heap[g]? = some (.cells cur 5 fz) := hg; simp [World.shape?, hg']) l h0 (by omega) (by unfold maxLen at hm; omega) ?_
    intro j x hx
    have hj : j < l.length := (List.getElem?_eq_some_iff.1 hx).1
    have hadd : (⟨g, 0, none⟩ : Addr).add j = ⟨g, j, none⟩ := by unfold Addr.add; split <;> simp_all
    rw [hadd, cell_of_row w.drew g j cur 5 fz hg]
    have e : (cur.toList.take l.length)[j]? = some (.int .u8 x.toNat) := by rw [ht]; simp [Lib.byteCells, hx]
    rw [List.getElem?_take, if_pos hj] at e
    simpa using e
  go_enter Try.func50, Try.ntmps50
  go_wp2
  go_region
  all_goals (go_wp2; go_ret; exact ⟨rfl, rfl⟩)
theorem freeze_other (w : World) (g n x : Nat) (h : x ≠ g) : (w.freeze ⟨g, 0, none⟩ n).heap[x]? = w.heap[x]? := by
  unfold World.freeze
  split
  · rfl
  · simp [Array.getElem?_modify, Ne.symm h]
theorem freeze_cell (w : World) (g n x i : Nat) : (w.freeze ⟨g, 0, none⟩ n).cell? ⟨x, i, none⟩ = w.cell? ⟨x, i, none⟩ := by
  by_cases h : x = g
  · subst h
    unfold World.freeze
    split
    · rfl
    · unfold World.cell?
      simp only [Array.getElem?_modify, if_true]
      cases hx : w.heap[x]? with
      | none => rfl
      | some o => cases o <;> rfl
  · unfold World.cell?
    rw [freeze_other w g n x h]
theorem ok_bldString : EntryOk Try.prog 50 E_bldString := ⟨⟨_, Try.func50, by kernel_rfl, by kernel_rfl⟩, fun ivs res bxs h => by
  unfold E_bldString at h
  split at h
  · rename_i a e n l
    obtain ⟨hc, he⟩ := pick1 h
    cases he
    obtain ⟨hc1, k2⟩ := andE hc
    obtain ⟨k0, k1⟩ := andE hc1
    obtain rfl := Nat.eq_of_beq_eq_true k0
    obtain ⟨s, q_s, h_s⟩ := isE_inv k1
    injection q_s with qa qb
    subst qa
    subst qb
    have hn1 : 1 ≤ s.size := Nat.le_of_ble_eq_true k2
    have e_s : asBy (.sl s.size (bytesP s)) = s := asBy_mk s
    rw [e_s]
    have hlen : s.data.toList.length = s.size := Array.length_toList
    have hne : s.data.toList ≠ [] := fun e => by rw [e] at hlen; rw [← hlen] at hn1; cases hn1
    refine contract_box2 fun w com b t v1 v2 b1 b2 hb hcb r1 r2 o1 o2 hnd hfresh => ?_
    obtain ⟨hd, rfl⟩ := al_inv r1
    rw [List.nil_append] at hnd ⊢
    cases r2 with
    | lst _ _ _ _ _ xs hL =>
      have hxs : xs = Lib.byteCells s.data.toList := cells_of_bytes (l := s.data.toList) hL.reps
      rcases hL.own.2 with ⟨rfl, h0⟩ | ⟨g, cap, cur, rfl, _, hg, hcap, hmax, hcs, htake⟩
      · omega
      · rw [Nat.mul_one] at hcs htake
        have hbg : b ≠ g := fun e => (List.nodup_cons.1 hnd).1 (by simp [Value.ownBlock, e])
        have hrun := bldString_row b g cap t v1 s.data.toList cur _ w (by rw [hlen]; exact hb) (by rw [rowT_lt (e := 5) (by decide)] at hg; exact hg) hne (by rw [hlen]; exact hcap) hmax hcs (by rw [hlen, htake, hxs])
        refine hrun.mono ?_
        rintro e w' ⟨rfl, rfl⟩
        have hb0 := Lib.below_freeze (Below.drew (Below.refl 0 w)) (p := ⟨g, 0, none⟩) (Nat.zero_le _) s.data.toList.length
        have hx : Ext w com (w.drew.freeze ⟨g, 0, none⟩ s.data.toList.length) com := ⟨fun _ => Nat.le_refl _, fun x i hi => freeze_cell w.drew g _ x i⟩
        refine ⟨_, com, v1, .slice (some ⟨g, 0, none⟩) s.size cap, [], [], rfl, hx, ⟨hb0.os, hb0.tape, hb0.output, hb0.size, fun x hx' hn => freeze_other w.drew g _ x fun e => hn (by rw [e]; simp [Value.ownBlock])⟩, fun x hx' => hfresh x (Nat.le_trans hb0.size hx'), fun _ _ _ => rfl, .one _ _ _ (.cv _ _ _ (.pv _ _ ?_)), (freeze_other w.drew g _ b hbg).trans hb, hcb, .bad _, .bad _, o1, o2, by simp, by simp⟩
        exact .str s
  · cases h⟩
end Go.Proofs.Ytdegegajoccdjaa
