/- Patterns: codes, texts and places as the program looks at them. -/
import Derived.Test.YtdegegajoccdjaaGgL
import Derived.Lib.Strings
namespace Go.Proofs.Ytdegegajoccdjaa
open Go.RowKit
set_option linter.unusedVariables false
set_option linter.unusedSimpArgs false

theorem decode_low (s : ByteArray) (i : Nat) (h : (s.get! i).toNat < 128) : Utf8.decode s i = ((s.get! i).toNat, 1) := by
  unfold Utf8.decode
  simp only [Nat.add_zero]
  rw [if_pos h]
theorem get_at (s : ByteArray) (i : Nat) (h : i < s.size) : s.get! i = s.data.toList[i]'(by rw [Array.length_toList]; exact h) := by
  show s.data[i]! = _
  rw [getElem!_pos s.data i h]
  simp
theorem idx_low (p : Nat → Bool) (s : ByteArray) (ha : ∀ x ∈ s.data.toList, x.toNat < 128) : ∀ f pos, s.size - pos ≤ f → decide (0 ≤ Lib.idxFuncFrom p true s f pos) = (s.data.toList.drop pos).any fun b => p b.toNat := by
  intro f
  induction f with
  | zero =>
    intro pos h
    rw [List.drop_eq_nil_of_le (by rw [Array.length_toList]; show s.size ≤ pos; omega)]
    simp [Lib.idxFuncFrom]
  | succ f ih =>
    intro pos h
    unfold Lib.idxFuncFrom
    by_cases hlt : pos < s.size
    · rw [if_pos hlt]
      have hl : pos < s.data.toList.length := by rw [Array.length_toList]; exact hlt
      rw [List.drop_eq_getElem_cons hl, List.any_cons, ← get_at s pos hlt]
      have hx : (s.get! pos).toNat < 128 := by rw [get_at s pos hlt]; exact ha _ (List.getElem_mem hl)
      rw [decode_low s pos hx]
      by_cases hq : p (s.get! pos).toNat = true
      · rw [if_pos hq, hq]; simp
      · rw [if_neg hq, ih (pos + 1) (by omega)]
        simp only [Bool.not_eq_true] at hq
        rw [hq]; simp
    · rw [if_neg hlt, List.drop_eq_nil_of_le (by rw [Array.length_toList]; show s.size ≤ pos; omega)]
      simp
theorem indexByte_mem : ∀ (l : List UInt8) (c : UInt8), 0 ≤ Lib.indexByte l c → c ∈ l
  | [], c, h => by simp [Lib.indexByte] at h
  | b :: l, c, h => by
    unfold Lib.indexByte at h
    by_cases hb : b = c
    · subst hb; exact List.mem_cons_self
    · rw [if_neg (by simpa using hb)] at h
      refine List.mem_cons_of_mem _ (indexByte_mem l c ?_)
      split at h
      · omega
      · have := Lib.indexByte_ge l c
        rename_i k
        have : Lib.indexByte l c ≠ -1 := by simpa using k
        omega
theorem codesC_low : ∀ (l : List UInt8) (p : Option UInt8), codesC p l = true → ∀ x ∈ l, x.toNat < 128
  | [], p, h, x, hx => by cases hx
  | y :: l, p, h, x, hx => by
    unfold codesC at h
    rw [Bool.and_eq_true, Bool.and_eq_true, decide_eq_true_eq] at h
    rcases List.mem_cons.1 hx with rfl | hx
    · have := indexByte_mem _ _ h.1.1
      unfold codesPc at this
      simp only [List.mem_cons, List.not_mem_nil, or_false] at this
      rcases this with rfl | rfl | rfl | rfl | rfl | rfl | rfl <;> decide
    · exact codesC_low l _ h.2 x hx
theorem u8_nat (k : UInt8) (m : Nat) (h : m < 256) : ((k.toNat : Int) = (m : Int)) ↔ k = UInt8.ofNat m := by
  have e : (UInt8.ofNat m).toNat = m := by rw [UInt8.toNat_ofNat']; omega
  rw [← UInt8.toNat_inj, e]
  omega
theorem inCode_eq (k c : UInt8) : inCodeI ((k.toNat : Int) % 256) (c.toNat : Int) = inCodeB k c := by
  have hk : k.toNat < 256 := k.toNat_lt
  rw [Int.emod_eq_of_lt (by omega) (by omega)]
  unfold inCodeI inCodeB
  have e1 : lowI (c.toNat : Int) = lowerB c := by unfold lowI lowerB; congr 1 <;> (rw [Bool.eq_iff_iff, decide_eq_true_eq, decide_eq_true_eq]; omega)
  have e2 : upI (c.toNat : Int) = upperB c := by unfold upI upperB; congr 1 <;> (rw [Bool.eq_iff_iff, decide_eq_true_eq, decide_eq_true_eq]; omega)
  have e3 : digI (c.toNat : Int) = digitU c := by unfold digI digitU; congr 1 <;> (rw [Bool.eq_iff_iff, decide_eq_true_eq, decide_eq_true_eq]; omega)
  have e4 : decide ((c.toNat : Int) < 32) = decide (c.toNat < 32) := by rw [Bool.eq_iff_iff, decide_eq_true_eq, decide_eq_true_eq]; omega
  have e5 : decide ((c.toNat : Int) = 127) = decide (c.toNat = 127) := by rw [Bool.eq_iff_iff, decide_eq_true_eq, decide_eq_true_eq]; omega
  have e6 : decide ((32 : Int) ≤ (c.toNat : Int)) = decide (32 ≤ c.toNat) := by rw [Bool.eq_iff_iff, decide_eq_true_eq, decide_eq_true_eq]; omega
  have e7 : decide ((c.toNat : Int) ≤ 126) = decide (c.toNat ≤ 126) := by rw [Bool.eq_iff_iff, decide_eq_true_eq, decide_eq_true_eq]; omega
  have f : ∀ (m : Nat) (n : Int) (u : UInt8), m < 256 → n = (m : Int) → u = UInt8.ofNat m → ((k.toNat : Int) = n ↔ k = u) := fun m n u h1 h2 h3 => by rw [h2, h3]; exact u8_nat k m h1
  have f1 := f 65 65 65 (by omega) rfl rfl
  have f2 := f 67 67 67 (by omega) rfl rfl
  have f3 := f 69 69 69 (by omega) rfl rfl
  have f4 := f 76 76 76 (by omega) rfl rfl
  have f5 := f 78 78 78 (by omega) rfl rfl
  have f6 := f 80 80 80 (by omega) rfl rfl
  have f7 := f 85 85 85 (by omega) rfl rfl
  simp only [e1, e2, e3, e4, e5, e6, e7, f1, f2, f3, f4, f5, f6, f7]
/-- The program's search through valid codes. -/
theorem codes_hit (c s : ByteArray) (i : Nat) (hc : codesB c = true) (hi : i < s.data.toList.length) : decide (0 ≤ Lib.idxFunc (codeHit s i) true c) = c.data.toList.any fun k => inCodeB k s.data.toList[i] := by
  unfold Lib.idxFunc
  rw [idx_low _ c (codesC_low _ _ hc) c.size 0 (by omega), List.drop_zero]
  congr 1
  funext k
  unfold codeHit
  rw [List.getD_eq_getElem?_getD, List.getElem?_eq_getElem hi, Option.getD_some]
  exact inCode_eq k _
theorem nil_size (c : ByteArray) : c.data.toList = [] ↔ c.size = 0 := by rw [← len_size, List.length_eq_zero_iff]
theorem simp_codes {s : List UInt8} {c t : ByteArray} {i j : Nat} (hc : c.size ≠ 0) : SimpR s (.mk 0 0 c t []) i j ↔ (∃ x, s[i]? = some x ∧ c.data.toList.any (fun k => inCodeB k x) = true) ∧ j = i + 1 := by
  unfold SimpR
  rw [show (PatT.mk 0 0 c t []).codes = c from rfl, if_pos (fun h => hc ((nil_size c).1 h))]
theorem simp_text {s : List UInt8} {c t : ByteArray} {i j : Nat} (hc : c.size = 0) (ht : t.size ≠ 0) (hi : i ≤ s.length) : SimpR s (.mk 0 0 c t []) i j ↔ Lib.hasPrefix (s.drop i) t.data.toList = true ∧ j = i + t.size := by
  unfold SimpR
  rw [show (PatT.mk 0 0 c t []).codes = c from rfl, show (PatT.mk 0 0 c t []).text = t from rfl, if_neg (fun h => h ((nil_size c).2 hc)), if_pos (fun h => ht ((nil_size t).1 h)), len_size]
  have e : Lib.hasPrefix (s.drop i) t.data.toList = true ↔ (s.drop i).take t.size = t.data.toList := by
    rw [← len_size, ← Lib.hasPrefix_of_take, Bool.and_eq_true, decide_eq_true_eq, beq_iff_eq]
    refine ⟨fun h => h.2, fun h => ⟨?_, h⟩⟩
    have := congrArg List.length h
    rw [List.length_take] at this
    omega
  rw [e]
  exact ⟨fun h => h.2, fun h => ⟨hi, h⟩⟩
theorem simp_none {s : List UInt8} {c t : ByteArray} {i j : Nat} (hc : c.size = 0) (ht : t.size = 0) : ¬ SimpR s (.mk 0 0 c t []) i j := by
  unfold SimpR
  rw [show (PatT.mk 0 0 c t []).codes = c from rfl, show (PatT.mk 0 0 c t []).text = t from rfl, if_neg (fun h => h ((nil_size c).2 hc)), if_neg (fun h => h ((nil_size t).2 ht))]
  exact id
theorem set_cells (l : List Bool) {t : Nat} (h : t < l.length) : (l.map PV.bool).take (t * 1) ++ [PV.bool true] ++ (l.map PV.bool).drop (t * 1 + 1) = (l.set t true).map PV.bool := by
  rw [Nat.mul_one, ← set_take h, List.map_append, List.map_cons, List.map_take, List.map_drop, List.append_assoc]
  rfl
theorem extract_list (s : ByteArray) (i : Nat) (h : i ≤ s.size) : (s.extract i s.size).data.toList = s.data.toList.drop i := by
  rw [← Lib.toList_data, Lib.extract_toList]
  refine List.take_of_length_le ?_
  rw [List.length_drop, len_size]
  omega
end Go.Proofs.Ytdegegajoccdjaa
