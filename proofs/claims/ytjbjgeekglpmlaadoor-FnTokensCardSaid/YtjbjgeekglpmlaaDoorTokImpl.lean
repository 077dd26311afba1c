/- The program's tokens, first part: nameLength, numberLength, signLength. -/
import Derived.Test.YtjbjgeekglpmlaaDoorTokLaw
import Derived.Test.YtjbjgeekglpmlaaDoorNumImpl
import Derived.Test.YtjbjgeekglpmlaaDoorTokS
import Derived.Deep.DeepCutAuto
import Derived.Deep.CutBlock
namespace Go.Proofs.YtjbjgeekglpmlaaDoor
open Go.RowKit Go.Shelf
set_option linter.unusedVariables false

def twR (p : UInt8 → Bool) : List UInt8 → Nat
  | [] => 0
  | c :: l => if p c = true then 1 + twR p l else 0
theorem twR_eq (p : UInt8 → Bool) (l : List UInt8) : twR p l = (l.takeWhile p).length := by
  induction l with
  | nil => rfl
  | cons c l ih =>
    show (if p c = true then 1 + twR p l else 0) = _
    rw [List.takeWhile_cons]
    split
    · rw [ih, List.length_cons]; omega
    · rfl

set_option maxHeartbeats 1000000 in
theorem nameLength_any (s : ByteArray) (w : World) (h1 : 1 ≤ s.size) (hs : s.size ≤ 1000) : Calls Tryd.prog 33 #[.string s] w fun e w' => e = .returned (.int .i64 (nameLen s.data.toList : Nat)) ∧ w = w' := by
  generalize hg : nameLen s.data.toList = res
  have HG := Lib.hid (show 1 + twR nameCh (s.data.toList.drop 1) = res by rw [← hg, twR_eq]; rfl)
  clear hg
  go_enter Tryd.func33, Tryd.ntmps33
  go_wp2_with fail
  go_loop [3] (fun i => ∃ k : Nat, 1 ≤ k ∧ k ≤ s.size ∧ i = .int .i64 k ∧ Hid (k + twR nameCh (s.data.toList.drop k) = res)) (fun i => s.size - (intOf i).toNat)
  case atStart => exact ⟨1, by omega, h1, rfl, HG⟩
  case round =>
    obtain ⟨k, hk1, hk, rfl, hr⟩ := hrel
    clear HG
    by_cases hlt : k < s.size
    · have HDr := Lib.hid (drop_at' s k hlt)
      have hx : s[k].toNat < 256 := UInt8.toNat_lt _
      cases hL : letterB s[k].toNat
      · cases hD : digitB s[k].toNat
        · have HN := Lib.hid (show k = res by
            have h := hr.out
            rw [HDr.out] at h
            unfold twR at h
            rw [if_neg (by unfold nameCh; rw [hL, hD]; simp)] at h
            exact h)
          have HL := Lib.hid hL; have HD := Lib.hid hD
          clear hr hL hD HDr
          go_wp2_with fail
          refine (isLetter_any s[k].toNat false HL.out _).mono ?_
          rintro e w1 ⟨rfl, rfl⟩
          go_wp2_with fail
          refine (isDigit_any s[k].toNat false HD.out _).mono ?_
          rintro e w1 ⟨rfl, rfl⟩
          go_wp2_with fail
          go_ret
          exact ⟨by rw [← HN.out]; rfl, rfl⟩
        · have HN := Lib.hid (show (k + 1) + twR nameCh (s.data.toList.drop (k + 1)) = res by
            have h := hr.out
            rw [HDr.out] at h
            unfold twR at h
            rw [if_pos (by unfold nameCh; rw [hL, hD]; rfl)] at h
            omega)
          have HL := Lib.hid hL; have HD := Lib.hid hD
          clear hr hL hD HDr
          go_wp2_with fail
          refine (isLetter_any s[k].toNat false HL.out _).mono ?_
          rintro e w1 ⟨rfl, rfl⟩
          go_wp2_with fail
          refine (isDigit_any s[k].toNat true HD.out _).mono ?_
          rintro e w1 ⟨rfl, rfl⟩
          go_wp2_with fail
          go_round
          case rel => exact ⟨k + 1, by omega, by omega, by go_num, HN⟩
          case measure => simp [intOf]; omega
      · have HN := Lib.hid (show (k + 1) + twR nameCh (s.data.toList.drop (k + 1)) = res by
          have h := hr.out
          rw [HDr.out] at h
          unfold twR at h
          rw [if_pos (by unfold nameCh; rw [hL]; rfl)] at h
          omega)
        have HL := Lib.hid hL
        clear hr hL HDr
        go_wp2_with fail
        refine (isLetter_any s[k].toNat true HL.out _).mono ?_
        rintro e w1 ⟨rfl, rfl⟩
        go_wp2_with fail
        go_round
        case rel => exact ⟨k + 1, by omega, by omega, by go_num, HN⟩
        case measure => simp [intOf]; omega
    · have HN := Lib.hid (show k = res by
        have h := hr.out
        rw [List.drop_eq_nil_of_le (by rw [← size_len]; omega)] at h
        exact h)
      clear hr
      go_wp2_with fail
      go_ret
      exact ⟨by rw [← HN.out]; rfl, rfl⟩

set_option maxHeartbeats 1000000 in
theorem numberLength_any (s : ByteArray) (w : World) (hs : s.size ≤ 1000) : Calls Tryd.prog 35 #[.string s] w (NatPost (numLen s.data.toList) w) := by
  have HL := Lib.hid (size_len s)
  have HTL := Lib.hid (tw_len_le isDig s.data.toList)
  go_enter Tryd.func35, Tryd.ntmps35
  go_wp2_with fail
  refine (digitsOf_any s w (by omega)).mono ?_
  rintro e w1 ⟨n, hn, rfl, hb1⟩
  have HN := Lib.hid hn
  have hnl : n ≤ s.size := by have := HL.out; have := HTL.out; omega
  clear hn
  by_cases hlt : n < s.size
  · have hx : s[n].toNat < 256 := UInt8.toNat_lt _
    have HI := Lib.hid (show s.data.toList[n]? = some s[n] by rw [List.getElem?_eq_getElem (by have := HL.out; omega)]; rfl)
    by_cases h46 : s[n] = 46
    · have q1 : ((s[n].toNat : Int) == 46) = true := beq_iff_eq.2 (by rw [h46]; rfl)
      have HV := Lib.hid (show numLen s.data.toList = n + (1 + ((s.data.toList.drop (n + 1)).takeWhile isDig).length) by
        unfold numLen
        rw [← HN.out, HI.out, h46, if_pos rfl])
      have HX := Lib.hid (show (s.extract (n + 1) s.size).data.toList = s.data.toList.drop (n + 1) by rw [extract_list, List.take_of_length_le (by have := HL.out; omega)])
      have q2 : (0 : Int) ≤ (n : Int) + 1 := by omega
      have q3 : ((n : Int) + 1).toNat = n + 1 := by omega
      have q4 : n + 1 ≤ s.size := by omega
      clear h46
      go_wp2_with fail
      refine (digitsOf_any _ w1 (by rw [ByteArray.size_extract]; omega)).mono ?_
      rintro e w2 ⟨k, hk, rfl, hb2⟩
      have HK := Lib.hid hk
      have hkl : k ≤ 1000 := by
        rw [HX.out] at hk
        have := tw_len_le isDig (s.data.toList.drop (n + 1))
        rw [List.length_drop] at this
        have := HL.out
        omega
      clear hk
      go_wp2_with fail
      go_ret
      exact ⟨n + (1 + k), by rw [HV.out, HK.out, HX.out], ret_int (by show (n : Int) + (1 + (k : Int)) = _; omega), hb1.trans (hb2.mono hb1.size)⟩
    · have q1 : ((s[n].toNat : Int) == 46) = false := beq_eq_false_iff_ne.2 (fun e => h46 (UInt8.toNat_inj.1 (by show s[n].toNat = 46; omega)))
      have HV := Lib.hid (show numLen s.data.toList = n by
        unfold numLen
        rw [← HN.out, HI.out, if_neg (by intro e; exact h46 (Option.some.inj e))])
      clear h46
      go_wp2_with fail
      go_ret
      exact ⟨n, by rw [HV.out], rfl, hb1⟩
  · have HV := Lib.hid (show numLen s.data.toList = n by
      unfold numLen
      rw [← HN.out, List.getElem?_eq_none (by have := HL.out; omega), if_neg (by simp)])
    go_wp2_with fail
    go_ret
    exact ⟨n, by rw [HV.out], rfl, hb1⟩

theorem one_index (c : UInt8) : decide ((0 : Int) ≤ Lib.indexByte oneS c) = oneS.contains c := by
  have h : ∀ n : Fin 256, decide ((0 : Int) ≤ Lib.indexByte oneS (UInt8.ofNat n.val)) = oneS.contains (UInt8.ofNat n.val) := by decide +kernel
  have := h ⟨c.toNat, UInt8.toNat_lt _⟩
  simpa using this

def twoB : Array Value := #[.string ⟨#[93, 93]⟩, .string ⟨#[39, 61]⟩, .string ⟨#[39, 60]⟩, .string ⟨#[39, 62]⟩, .string ⟨#[39, 91]⟩, .string ⟨#[39, 93]⟩, .string ⟨#[36, 36]⟩]
def anyFrom (l : List UInt8) (k : Nat) : Bool := (twoS.drop k).any (fun x => x.isPrefixOf l)
theorem anyFrom_step (l : List UInt8) (k : Nat) (h : k < 7) : anyFrom l k = ((twoS.getD k []).isPrefixOf l || anyFrom l (k + 1)) := by
  unfold anyFrom
  have : twoS.drop k = twoS.getD k [] :: twoS.drop (k + 1) := by
    rcases (by omega : k = 0 ∨ k = 1 ∨ k = 2 ∨ k = 3 ∨ k = 4 ∨ k = 5 ∨ k = 6) with rfl | rfl | rfl | rfl | rfl | rfl | rfl <;> rfl
  rw [this, List.any_cons]

set_option maxHeartbeats 2000000 in
theorem signLength_any (s : ByteArray) (w : World) (h1 : 1 ≤ s.size) (hs : s.size ≤ 1000) : Calls Tryd.prog 36 #[.string s] w (NatPost (signLen s.data.toList) w) := by
  generalize hg : signLen s.data.toList = res
  have HG := Lib.hid hg
  clear hg
  have HH := Lib.hid (show s.data.toList.headD 0 = s[0] by
    have := drop_at' s 0 (by omega)
    rw [List.drop_zero] at this
    rw [this]; rfl)
  have hb0 : Below w.heap.size w (w.alloc (.cells twoB 9)) := (Below.refl _ _).alloc (Nat.le_refl _) _
  have B0 := Lib.hid (Blk.new w 9 twoB)
  unfold twoB at hb0 B0
  go_enter Tryd.func36, Tryd.ntmps36
  go_wp2_with fail
  obtain ⟨w0, hw0⟩ : ∃ w0, w0 = w.alloc (.cells #[.string ⟨#[93, 93]⟩, .string ⟨#[39, 61]⟩, .string ⟨#[39, 60]⟩, .string ⟨#[39, 62]⟩, .string ⟨#[39, 91]⟩, .string ⟨#[39, 93]⟩, .string ⟨#[36, 36]⟩] 9) := ⟨_, rfl⟩
  rw [← hw0] at hb0 B0
  rw [← hw0]
  clear hw0
  go_loop [4, 7] (fun _ i => ∃ k : Nat, k ≤ 7 ∧ i = .int .i64 k ∧ Hid (isTwo s.data.toList = anyFrom s.data.toList k)) (fun _ i => 7 - (intOf i).toNat)
  case atStart => exact ⟨0, by omega, rfl, Lib.hid rfl⟩
  case round =>
    obtain ⟨k, hk, rfl, hr⟩ := hrel
    by_cases hlt : k < 7
    · have HST := Lib.hid (anyFrom_step s.data.toList k hlt)
      obtain ⟨x, hx, HX⟩ : ∃ x : ByteArray, w0.cell? ⟨w.heap.size, k, none⟩ = some (.string x) ∧ Hid (x.data.toList = twoS.getD k []) := by
        have hc := B0.out.cell k
        rcases (by omega : k = 0 ∨ k = 1 ∨ k = 2 ∨ k = 3 ∨ k = 4 ∨ k = 5 ∨ k = 6) with rfl | rfl | rfl | rfl | rfl | rfl | rfl <;> exact ⟨_, hc, Lib.hid rfl⟩
      have i1 : (0 : Int) ≤ (k : Int) := by omega
      have i2 : (k : Int) < 7 := by omega
      go_wp2_with fail
      refine (Tryd.strings_HasPrefix s x w0).mono ?_
      rintro e w1 ⟨rfl, hw1⟩
      obtain rfl : w0 = w1 := hw1.symm
      clear hw1
      have HP := Lib.hid (show Lib.hasPrefix s.data.toList x.data.toList = (twoS.getD k []).isPrefixOf s.data.toList by rw [HX.out]; rfl)
      generalize Lib.hasPrefix s.data.toList x.data.toList = p at *
      cases p
      · have HN := Lib.hid (show isTwo s.data.toList = anyFrom s.data.toList (k + 1) by rw [hr.out, HST.out, ← HP.out]; rfl)
        clear hr HST HP
        go_wp2_with fail
        go_round
        case rel => exact ⟨k + 1, by omega, by go_num, HN⟩
        case measure => simp [intOf]; omega
      · have HN := Lib.hid (show res = 2 by
          rw [← HG.out]; unfold signLen
          rw [hr.out, HST.out, ← HP.out, Bool.true_or, if_pos rfl])
        clear hr HST HP
        go_wp2_with fail
        go_ret
        exact ⟨2, by rw [HN.out], rfl, hb0⟩
    · obtain rfl : k = 7 := by omega
      have HNT := Lib.hid (show isTwo s.data.toList = false by rw [hr.out]; rfl)
      clear hr
      have hx : s[0].toNat < 256 := UInt8.toNat_lt _
      go_wp2_with fail
      refine (Tryd.strings_IndexByte _ _ w0).mono ?_
      rintro e w1 ⟨rfl, hw1⟩
      obtain rfl : w0 = w1 := hw1.symm
      clear hw1
      have HI := Lib.hid (show decide ((0 : Int) ≤ Lib.indexByte oneS ((s[0].toNat : Int).toNat.toUInt8)) = oneS.contains s[0] by
        rw [show (s[0].toNat : Int).toNat.toUInt8 = s[0] by simp]
        exact one_index s[0])
      have HSL := Lib.hid (show res = if oneS.contains s[0] = true then 1 else 0 by
        rw [← HG.out]; unfold signLen
        rw [HNT.out, HH.out, if_neg (by simp)])
      change Hid (decide ((0 : Int) ≤ Lib.indexByte ([40, 41, 44, 58, 43, 45, 42, 47, 92, 35, 95, 61, 60, 62, 91, 93, 38, 33, 39, 63, 64, 94, 36, 46] : List UInt8) ((s[0].toNat : Int).toNat.toUInt8)) = oneS.contains s[0]) at HI
      generalize Lib.indexByte ([40, 41, 44, 58, 43, 45, 42, 47, 92, 35, 95, 61, 60, 62, 91, 93, 38, 33, 39, 63, 64, 94, 36, 46] : List UInt8) ((s[0].toNat : Int).toNat.toUInt8) = ix at *
      by_cases hix : 0 ≤ ix
      · have HV := Lib.hid (show res = 1 by rw [HSL.out, ← HI.out, decide_eq_true hix, if_pos rfl])
        have q : decide (0 ≤ ix) = true := decide_eq_true hix
        clear HI HSL
        go_wp2_with fail
        go_ret
        exact ⟨1, by rw [HV.out], rfl, hb0⟩
      · have HV := Lib.hid (show res = 0 by rw [HSL.out, ← HI.out, decide_eq_false hix, if_neg (by simp)])
        have q : decide (0 ≤ ix) = false := decide_eq_false hix
        clear HI HSL
        go_wp2_with fail
        go_ret
        exact ⟨0, by rw [HV.out], rfl, hb0⟩
end Go.Proofs.YtjbjgeekglpmlaaDoor
