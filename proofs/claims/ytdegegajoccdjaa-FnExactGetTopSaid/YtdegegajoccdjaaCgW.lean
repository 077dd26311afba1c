/- Seats are those of a superblock: the program's walk, by hand. -/
import Derived.Test.YtdegegajoccdjaaCfL
import Derived.Test.YtdegegajoccdjaaArith
import Derived.Maps.OwnOps
import Derived.BigQuiet
namespace Go.Proofs.Ytdegegajoccdjaa
open Go.RowKit Go.Maps
set_option linter.unusedVariables false
set_option linter.unusedSimpArgs false

theorem lawK : Keyed Try.prog 2 := int_keyed Try.underlying2
theorem zeroB (w : World) : (zeroValue 4).run Try.prog w = .ok (.bool false) w := by kernel_rfl
theorem inB_inR (n a b : Int) : inB n a b = inR n a b := by unfold inB inR; simp
theorem len64 (l : List SeT) : decide ((l.length : Int) ≤ 64) = decide (l.length ≤ 64) := by by_cases h : l.length ≤ 64 <;> simp [h] <;> omega
theorem bool_inj {a b : Bool} (h : (DataW.lit (.bool a) : DataW Unit) = .lit (.bool b)) : a = b := by cases h; rfl
theorem one_f1 {p : List SeT} {x : SeT} (h : inR x.id 1 64 = false) : seatOne p x = false := by unfold seatOne; rw [show inB x.id 1 64 = false from (inB_inR _ _ _).trans h]; rfl
theorem one_f2 {p : List SeT} {x : SeT} (h : inR x.slot 2 399 = false) : seatOne p x = false := by unfold seatOne; rw [show inB x.slot 2 399 = false from (inB_inR _ _ _).trans h]; simp
theorem one_f3 {p : List SeT} {x : SeT} (h : (p.any fun y => y.slot == x.slot) = true) : seatOne p x = false := by
  have : (p.all fun y => !(y.slot == x.slot)) = false := by
    rw [← List.not_any_eq_all_not, h]; rfl
  unfold seatOne
  rw [this, Bool.and_false]
theorem one_f4 {p : List SeT} {x : SeT} (h : lastLt p x = false) : seatOne p x = false := by unfold seatOne; rw [h]; simp
theorem one_t {p : List SeT} {x : SeT} (h1 : inR x.id 1 64 = true) (h2 : inR x.slot 2 399 = true) (h3 : (p.any fun y => y.slot == x.slot) = false) (h4 : lastLt p x = true) : seatOne p x = true := by
  have : (p.all fun y => !(y.slot == x.slot)) = true := by rw [← List.not_any_eq_all_not, h3]; rfl
  unfold seatOne
  rw [show inB x.id 1 64 = true from (inB_inR _ _ _).trans h1, show inB x.slot 2 399 = true from (inB_inR _ _ _).trans h2, h4, this]
  rfl
theorem slot_wf {x : SeT} (h : shSe x) : (Lit.int .i64 x.slot).wf = true := by
  unfold shSe at h
  exact WalkArith.wf_i64 h.2
theorem seatsC_app : ∀ (a b p : List SeT), seatsC p (a ++ b) = (seatsC p a && seatsC (p ++ a) b)
  | [], b, p => by rw [List.append_nil]; rfl
  | x :: a, b, p => by
    show (seatOne p x && seatsC (p ++ [x]) (a ++ b)) = ((seatOne p x && seatsC (p ++ [x]) a) && seatsC (p ++ x :: a) b)
    rw [seatsC_app a b, Bool.and_assoc, List.append_assoc]
    rfl
theorem seats_round (l : List SeT) (k : Nat) (h : k < l.length) (hS : seatsC [] (l.take k) = true) : (seatOne (l.take k) l[k] = false → seatsC [] l = false) ∧ (seatOne (l.take k) l[k] = true → seatsC [] (l.take (k + 1)) = true) := by
  have e1 : l.take (k + 1) = l.take k ++ [l[k]] := List.take_succ_eq_append_getElem h
  constructor
  · intro hf
    have e2 : l = l.take k ++ (l[k] :: l.drop (k + 1)) := by rw [← List.drop_eq_getElem_cons h, List.take_append_drop]
    have e3 : seatsC [] l = (seatsC [] (l.take k) && seatsC ([] ++ l.take k) (l[k] :: l.drop (k + 1))) := by rw [← seatsC_app, ← e2]
    rw [e3, hS]
    show (true && (seatOne (l.take k) l[k] && seatsC (l.take k ++ [l[k]]) (l.drop (k + 1)))) = false
    rw [hf]
    rfl
  · intro ht
    rw [e1, seatsC_app, hS]
    show (true && (seatOne (l.take k) l[k] && true)) = true
    rw [ht]
    rfl
theorem seatsOk_none (a : Option Addr) (cap : Nat) (w : World) : Calls Try.prog 45 #[.slice a 0 cap] w fun e w' => e = .returned (.bool true) ∧ Below w.heap.size w w' := by
  have hmm := @run_makeMap Try.prog
  go_enter Try.func45, Try.ntmps45
  go_wp2
  refine wp_loop_rounds 1 ?_
  rw [rounds_succ]
  go_wp2
  go_ret
  exact ⟨rfl, (Below.refl _ _).alloc (Nat.le_refl _) _⟩
theorem own_drewN {w : World} {b n : Nat} {D : DataW Unit} (h : w.ownsMap Try.prog 2 (plainElem Try.prog 4) b n D) (q : Nat) : (w.drewN q).ownsMap Try.prog 2 (plainElem Try.prog 4) b n D := h
theorem look_all {w : World} {b n : Nat} {l : List SeT} {x : Int} (h : w.ownsMap Try.prog 2 (plainElem Try.prog 4) b n (slotsD l)) (hkey : keyOf Try.prog 2 (.int .i64 x) = some (.int .i64 x)) (c : Bool) (hc : c = l.any fun y => y.slot == x) (q : Nat) :
    (Instr.lookup 95 (.map (some b)) (.int .i64 x) false).run Try.prog (w.drewN q) = .ok (.bool c) (w.drewN q) := by
  obtain ⟨c', hrun, hat⟩ := lookup_bool (own_drewN h q) lawK Try.underlying95 Try.underlying4 (zeroB _) hkey
  rw [slotsD_at _ _ trivial] at hat
  rw [hrun, hc, bool_inj hat]
theorem within_id {n : Int} {b : Bool} (h : inR n 1 64 = b) (w : World) : Calls Try.prog 37 #[.int .i64 n, .int .i64 1, .int .i64 64] w fun e w' => e = .returned (.bool b) ∧ w = w' := within_any n 1 64 b h w
theorem within_slot {n : Int} {b : Bool} (h : inR n 2 399 = b) (w : World) : Calls Try.prog 37 #[.int .i64 n, .int .i64 2, .int .i64 399] w fun e w' => e = .returned (.bool b) ∧ w = w' := within_any n 2 399 b h w
set_option maxHeartbeats 1000000 in
set_option maxRecDepth 100000 in
theorem seatsOk_some (b cap : Nat) (l : List SeT) (w : World) (hl : l.length ≤ 100000) (hsh : shSes l) (hb : b < w.heap.size)
    (hc : ∀ j (h : j < l.length), w.cell? ⟨b, j * 2, none⟩ = some (.int .i64 l[j].id) ∧ w.cell? ⟨b, j * 2 + 1, none⟩ = some (.int .i64 l[j].slot)) :
    Calls Try.prog 45 #[.slice (some ⟨b, 0, none⟩) l.length cap] w fun e w' => e = .returned (.bool (seatsC [] l && decide (l.length ≤ 64))) ∧ Below w.heap.size w w' := by
  have hmm := @run_makeMap Try.prog
  have HC := Lib.hid hc
  clear hc
  go_enter Try.func45, Try.ntmps45
  go_wp2
  go_loopw [9] (fun i wr => ∃ k : Nat, k ≤ l.length ∧ i = .int .i64 k ∧ Hid (wr.ownsMap Try.prog 2 (plainElem Try.prog 4) w.heap.size k (slotsD (l.take k))) ∧ Hid (seatsC [] (l.take k) = true) ∧ Below w.heap.size w wr ∧ w.heap.size < wr.heap.size) (fun i _ => l.length - (intOf i).toNat)
  case atStart => exact ⟨0, Nat.zero_le _, rfl, Lib.hid (World.ownsMap_made _ _ _ _), Lib.hid rfl, (Below.refl _ _).alloc (Nat.le_refl _) _, by simp⟩
  case round =>
    obtain ⟨k, hk, rfl, HO, HS, hbw, hlg⟩ := hrel
    by_cases hlt : k < l.length
    · obtain ⟨x, hx⟩ : ∃ x, x = l[k] := ⟨_, rfl⟩
      have c0 : wr.cell? ⟨b, k * 2, none⟩ = some (.int .i64 x.id) := by rw [hx]; exact (hbw.cell (p := ⟨b, k * 2, none⟩) hb).trans (HC.out k hlt).1
      have c1 : wr.cell? ⟨b, k * 2 + 1, none⟩ = some (.int .i64 x.slot) := by rw [hx]; exact (hbw.cell (p := ⟨b, k * 2 + 1, none⟩) hb).trans (HC.out k hlt).2
      have hw1 : (Lit.int .i64 x.slot).wf = true := hx ▸ slot_wf (shSe_at hsh hlt)
      have hkey : keyOf Try.prog 2 (.int .i64 x.slot) = some (.int .i64 x.slot) := keyOf_int_mk Try.underlying2 hw1
      obtain ⟨c, hcv⟩ : ∃ c, c = (l.take k).any fun y => y.slot == x.slot := ⟨_, rfl⟩
      have hrun := look_all (HO.out.alloc (.cells #[.int .i64 x.id, .int .i64 x.slot] 50)) hkey c hcv
      have HR := seats_round l k hlt HS.out
      rw [← hx] at HR
      have HK := Lib.hid hkey
      clear hkey hw1
      have HX := Lib.hid hx
      have HV := Lib.hid hcv
      have HRR := Lib.hid HR
      clear hx hcv HR
      cases q1 : inR x.id 1 64 with
      | false =>
        have F := Lib.hid (show seatsC [] l = false from HRR.out.1 (one_f1 q1))
        go_wp2_with fail
        go_quiet ((go_at_call 37; exact quiet_left (within_any x.id 1 64 false q1 _)))
        go_wp2_with fail
        go_ret
        exact ⟨by rw [F.out]; rfl, below_drewN (hbw.alloc hbw.size _) _⟩
      | true =>
        cases q2 : inR x.slot 2 399 with
        | false =>
          have F := Lib.hid (show seatsC [] l = false from HRR.out.1 (one_f2 q2))
          go_wp2_with fail
          go_quiet (((go_at_call 37; first | with_reducible exact quiet_left (within_id q1 _) | with_reducible exact quiet_left (within_slot q2 _))))
          go_wp2_with fail
          go_ret
          exact ⟨by rw [F.out]; rfl, below_drewN (hbw.alloc hbw.size _) _⟩
        | true =>
          cases c with
          | true =>
            have F := Lib.hid (show seatsC [] l = false from HRR.out.1 (one_f3 HV.out.symm))
            go_wp2_with fail
            go_quiet (((go_at_call 37; first | with_reducible exact quiet_left (within_id q1 _) | with_reducible exact quiet_left (within_slot q2 _))))
            go_wp2_with fail
            go_ret
            exact ⟨by rw [F.out]; rfl, below_drewN (hbw.alloc hbw.size _) _⟩
          | false =>
            have HT := Lib.hid (show l.take (k + 1) = l.take k ++ [x] by rw [HX.out]; exact List.take_succ_eq_append_getElem hlt)
            by_cases h0 : k = 0
            · subst h0
              go_wp2_with fail
              go_quiet ((go_at_call 37; first | with_reducible exact quiet_left (within_id q1 _) | with_reducible exact quiet_left (within_slot q2 _)))
              go_wp2_with (first
                | (at_mapUpdate; refine wpList_mapUpdate_own _ rfl _ _ _ 95 rfl 2 4 lawK Try.underlying95 (plainElem (H := Unit) Try.prog 4) w.heap.size 0 _ rfl (own_drewN (HO.out.alloc _) _) (by unfold maxLen; omega) _ _ _ rfl rfl HK.out _ [] (plainElem_bool Try.underlying4 true) ?_; intro w1 hown1 hgrow1)
                | go_in)
              go_roundw
              case rel => exact ⟨0 + 1, by omega, by go_num, Lib.hid (by rw [HT.out, slotsD_snoc]; exact hown1), Lib.hid (HRR.out.2 (one_t q1 q2 HV.out.symm rfl)), (below_drewN (hbw.alloc hbw.size _) _).grown hgrow1 (by simp; omega) (fun j hj => by cases hj; exact Nat.le_refl _), by have := hgrow1.size; simp at this; omega⟩
              case measure => simp [intOf]; omega
            · obtain ⟨j, rfl⟩ : ∃ j, k = j + 1 := ⟨k - 1, by omega⟩
              have hj : j < l.length := by omega
              obtain ⟨y, hy⟩ : ∃ y, y = l[j] := ⟨_, rfl⟩
              have d0 : ∀ o, (wr.alloc o).cell? ⟨b, j * 2, none⟩ = some (.int .i64 y.id) := by intro o; rw [hy]; exact ((hbw.alloc hbw.size o).cell (p := ⟨b, j * 2, none⟩) hb).trans (HC.out j hj).1
              have HLL := Lib.hid (show lastLt (l.take (j + 1)) x = decide (y.id < x.id) by rw [hy]; exact lastLt_take l (j + 1) hlt (by omega) x)
              clear hy
              have i1 : IntKind.i64.wrap ((j : Nat) : Int) = (j : Int) := IntWalk.i64_in _ (by omega)
              cases q4 : decide (x.id ≤ y.id) with
              | true =>
                have hle := of_decide_eq_true q4
                have F := Lib.hid (show seatsC [] l = false from HRR.out.1 (one_f4 (by rw [HLL.out]; exact decide_eq_false (by omega))))
                clear hle
                go_wp2_with fail
                go_quiet ((go_at_call 37; first | with_reducible exact quiet_left (within_id q1 _) | with_reducible exact quiet_left (within_slot q2 _)))
                go_wp2_with fail
                go_ret
                exact ⟨by rw [F.out]; rfl, below_drewN (hbw.alloc hbw.size _) _⟩
              | false =>
                have hle := of_decide_eq_false q4
                have HLT := Lib.hid (show lastLt (l.take (j + 1)) x = true by rw [HLL.out]; exact decide_eq_true (by omega))
                clear hle
                go_wp2_with fail
                go_quiet ((go_at_call 37; first | with_reducible exact quiet_left (within_id q1 _) | with_reducible exact quiet_left (within_slot q2 _)))
                go_wp2_with (first
                  | (at_mapUpdate; refine wpList_mapUpdate_own _ rfl _ _ _ 95 rfl 2 4 lawK Try.underlying95 (plainElem (H := Unit) Try.prog 4) w.heap.size (j + 1) _ rfl (own_drewN (HO.out.alloc _) _) (by unfold maxLen; omega) _ _ _ rfl rfl HK.out _ [] (plainElem_bool Try.underlying4 true) ?_; intro w1 hown1 hgrow1)
                  | go_in)
                go_roundw
                case rel => exact ⟨j + 1 + 1, by omega, by go_num, Lib.hid (by rw [HT.out, slotsD_snoc]; exact hown1), Lib.hid (HRR.out.2 (one_t q1 q2 HV.out.symm HLT.out)), (below_drewN (hbw.alloc hbw.size _) _).grown hgrow1 (by simp; omega) (fun j hj => by cases hj; exact Nat.le_refl _), by have := hgrow1.size; simp at this; omega⟩
                case measure => simp [intOf]; omega
    · have HL := Lib.hid (show l.take k = l from List.take_of_length_le (by omega))
      have F := Lib.hid (show seatsC [] l = true by have := HS.out; rwa [HL.out] at this)
      go_wp2_with fail
      go_ret
      exact ⟨by rw [F.out, Bool.true_and, ← len64 l]; rfl, hbw⟩
end Go.Proofs.Ytdegegajoccdjaa
