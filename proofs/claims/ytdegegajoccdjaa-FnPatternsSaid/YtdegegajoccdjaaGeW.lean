/- The closure of 'once' asks a rune's byte; a search through codes by it. -/
import Derived.Test.YtdegegajoccdjaaGcW
import Derived.Test.YtdegegajoccdjaaGdP
namespace Go.Proofs.Ytdegegajoccdjaa
open Go.RowKit Go.Lib
set_option linter.unusedVariables false
set_option linter.unusedSimpArgs false

set_option maxHeartbeats 1000000 in
theorem once1_any (x : Nat) (s : ByteArray) (at' : Nat) (ha : at' < s.size) (hs : s.size ≤ 1000000) (b1 o1 b2 o2 : Nat) (w : World)
    (h1 : w.cell? ⟨b1, o1, none⟩ = some (.string s)) (h2 : w.cell? ⟨b2, o2, none⟩ = some (.int .i64 at')) :
    Calls Try.prog 69 #[.int .i32 (x : Int), .pointer (some ⟨b1, o1, none⟩), .pointer (some ⟨b2, o2, none⟩)] w fun e w' => e = .returned (.bool (inCodeI ((x : Int) % 256) (s[at']'ha).toNat)) ∧ ∃ q, w' = w.drewN q := by
  go_enter Try.func69, Try.ntmps69
  go_wp2_with fail
  refine (inCode_any _ _ w).mono ?_
  rintro e w1 ⟨rfl, rfl⟩
  go_wp2
  go_ret
  exact ⟨rfl, 0, rfl⟩
theorem PRep.clo2_inv {w : World} {com : Nat → Nat} {v : Value} {f : FuncId} {p q : PV} (h : PRep w com v (.clo f [p, q])) : ∃ a b, v = .func (.func f) #[] #[a, b] ∧ PRep w com a p ∧ PRep w com b q := by
  generalize hl : [p, q] = l at h
  generalize ho : PV.clo f l = o at h
  cases h <;> cases ho
  rename_i cs hlen he
  subst hl
  match cs, hlen with
  | [a, b], _ => exact ⟨a, b, rfl, he 0 (by simp) (by simp), he 1 (by simp) (by simp)⟩
theorem PRep.ref1_inv {w : World} {com : Nat → Nat} {v : Value} {p : PV} (h : PRep w com v (.ref [p])) : ∃ b o c, v = .pointer (some ⟨b, o, none⟩) ∧ w.cell? ⟨b, o, none⟩ = some c ∧ PRep w com c p ∧ o < com b := by
  generalize hl : [p] = l at h
  generalize ho : PV.ref l = q at h
  cases h <;> cases ho
  rename_i b off cs h1 hm hlen hc he
  subst hl
  match cs, hlen with
  | [a], _ => exact ⟨b, off, a, rfl, hm 0 a rfl, he 0 (by simp) (by simp), hc 0 (by simp)⟩
/-! A search through codes. -/
def codeHit (s : ByteArray) (i : Nat) (x : Nat) : Bool := inCodeI ((x : Int) % 256) ((s.data.toList.getD i 0).toNat : Int)
def E_ConC : Entry := fun ivs => match ivs with
  | [.cv (.pv (.str c)), .cv (.pv (.clo g [.ref [.str s], .ref [.int .i64 i]]))] => [(Nat.beq g 69 && decide (0 ≤ i) && decide (i < s.size) && decide (s.size ≤ 1000000), cB (decide (0 ≤ Lib.idxFunc (codeHit s i.toNat) true c)), [])]
  | _ => []
theorem ok_ConC : EntryOk Try.prog 68 E_ConC := ⟨⟨_, Try.func68, by kernel_rfl, by kernel_rfl⟩, fun ivs res bxs h => by
  unfold E_ConC at h
  split at h
  · rename_i c g s i
    obtain ⟨hc, he⟩ := pick1 h
    cases he
    simp only [Bool.and_eq_true, decide_eq_true_eq] at hc
    obtain ⟨⟨⟨k0, k1⟩, k2⟩, k3⟩ := hc
    obtain rfl := Nat.eq_of_beq_eq_true k0
    obtain ⟨n, rfl⟩ := Int.eq_ofNat_of_zero_le k1
    refine contract_flat (ps := [.str c, .clo 69 [.ref [.str s], .ref [.int .i64 n]]]) (v := .bool (decide (0 ≤ Lib.idxFunc (codeHit s n) true c))) rfl fun w com vals hv hf => ?_
    obtain ⟨v, vs, rfl, hv1, hn⟩ := hv.of_cons
    obtain ⟨v2, vs2, rfl, hv2, hn2⟩ := hn.of_cons
    rw [hn2.of_nil]
    cases hv1
    obtain ⟨a, b, rfl, ha, hb⟩ := hv2.clo2_inv
    obtain ⟨b1, o1, c1, rfl, hc1, hp1, hl1⟩ := ha.ref1_inv
    obtain ⟨b2, o2, c2, rfl, hc2, hp2, hl2⟩ := hb.ref1_inv
    cases hp1
    cases hp2
    have lt1 : b1 < w.heap.size := by
      rcases Nat.lt_or_ge b1 w.heap.size with h | h
      · exact h
      · rw [hf b1 h] at hl1; omega
    have lt2 : b2 < w.heap.size := by
      rcases Nat.lt_or_ge b2 w.heap.size with h | h
      · exact h
      · rw [hf b2 h] at hl2; omega
    have hsz : n < s.size := by omega
    refine (Try.strings_ContainsFunc 69 #[.pointer (some ⟨b1, o1, none⟩), .pointer (some ⟨b2, o2, none⟩)] (fun _ _ => rfl) (codeHit s n) c w ?_).mono ?_
    · intro W x hB
      have := once1_any x s n hsz k3 b1 o1 b2 o2 W ((hB.cell (p := ⟨b1, o1, none⟩) lt1).trans hc1) ((hB.cell (p := ⟨b2, o2, none⟩) lt2).trans hc2)
      unfold FnGives codeHit
      have e : s.data.toList.getD n 0 = s[n]'hsz := by
        rw [List.getD_eq_getElem?_getD, List.getElem?_eq_getElem (by rw [len_size]; exact hsz)]
        simp only [Option.getD_some, Array.getElem_toList]
        rfl
      rw [e]
      exact this
    · rintro e w' ⟨rfl, hB⟩
      exact ⟨rfl, hB⟩
  · cases h⟩
end Go.Proofs.Ytdegegajoccdjaa
