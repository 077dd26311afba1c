/- Patterns: the rest of an item behind its least number of matches; plain laws. -/
import Derived.Test.YtdegegajoccdjaaGhP
namespace Go.Proofs.Ytdegegajoccdjaa
open Go.RowKit
set_option linter.unusedVariables false
set_option linter.unusedSimpArgs false

theorem Iter_add {R : Nat → Nat → Prop} (a : Nat) : ∀ (b i j : Nat), Iter R (a + b) i j ↔ ∃ m, Iter R a i m ∧ Iter R b m j
  | 0, i, j => ⟨fun h => ⟨j, h, rfl⟩, fun ⟨m, h1, h2⟩ => by cases h2; exact h1⟩
  | b + 1, i, j => by
    constructor
    · rintro ⟨x, h1, h2⟩
      obtain ⟨m, h3, h4⟩ := (Iter_add a b i x).1 h1
      exact ⟨m, h3, x, h4, h2⟩
    · rintro ⟨m, h3, x, h4, h2⟩
      exact ⟨x, (Iter_add a b i x).2 ⟨m, h3, h4⟩, h2⟩
def RestR (s : List UInt8) (p : PatT) (i j : Nat) : Prop := ∃ k : Nat, (p.high = -1 ∨ p.low + k ≤ p.high) ∧ Iter (OnceR s p) k i j
noncomputable def restL (s : List UInt8) (p : PatT) (bs : List Bool) : List Bool := imgL s.length (RestR s p) bs
theorem restL_len (s : List UInt8) (p : PatT) (bs : List Bool) : (restL s p bs).length = s.length + 1 := imgL_len _ _ _
theorem item_rest {s : List UInt8} {p : PatT} {bs : List Bool} (hb : bs.length = s.length + 1) {lo : Nat} (h1 : p.low = lo) : restL s p (nowL s p bs lo) = itemL s p bs := by
  unfold restL nowL itemL
  rw [imgL_comp hb (fun i j hi h => (Iter_le (once_ok s p) h hi).2)]
  refine imgL_congr hb fun i j _ _ => ?_
  unfold RestR ItemR times
  constructor
  · rintro ⟨m, h2, k, h3, h4⟩
    exact ⟨lo + k, ⟨by omega, by omega⟩, (Iter_add lo k i j).2 ⟨m, h2, h4⟩⟩
  · rintro ⟨k, ⟨h2, h3⟩, h4⟩
    obtain ⟨d, rfl⟩ : ∃ d, k = lo + d := ⟨k - lo, by omega⟩
    obtain ⟨m, h5, h6⟩ := (Iter_add lo d i j).1 h4
    exact ⟨m, h5, d, by omega, h6⟩
theorem rest_upto {s : List UInt8} {p : PatT} {bs : List Bool} (hb : bs.length = s.length + 1) {j : Nat} (h0 : p.high ≠ -1) (h1 : p.low + j = p.high) : reachL s p bs 0 j = restL s p bs := by
  unfold restL reachL
  refine imgL_congr hb fun x y _ _ => ?_
  unfold RestR Upto
  constructor
  · rintro ⟨k, h3, h4, h5⟩
    exact ⟨k, by omega, h5⟩
  · rintro ⟨k, h3, h5⟩
    exact ⟨k, by omega, by omega, h5⟩
theorem rest_all {s : List UInt8} {p : PatT} {bs : List Bool} (hb : bs.length = s.length + 1) {k : Nat} (h2 : p.high = -1) (hm : moreB (reachL s p bs 0 k) (nowL s p bs (k + 1)) = false) : reachL s p bs 0 (k + 1) = restL s p bs := by
  have h3 := (moreB_false (by rw [reachL_len, nowL_len])).1 hm
  have h4 := upto_all hb (once_ok s p) h3 (Nat.zero_le _)
  have e : restL s p bs = reachL s p bs 0 k := by
    unfold reachL
    rw [h4]
    refine imgL_congr hb fun i j _ _ => ?_
    unfold RestR
    exact ⟨fun ⟨k, h3, h5⟩ => ⟨k, Nat.zero_le _, h5⟩, fun ⟨k, h3, h5⟩ => ⟨k, .inl h2, h5⟩⟩
  rw [e, ← reachL_succ hb (Nat.zero_le _)]
  refine set_ext (by rw [orL_len (by rw [reachL_len, nowL_len])]) fun j => ?_
  rw [tr_orL (by rw [reachL_len, nowL_len])]
  exact ⟨fun h => h.elim id (h3 j), .inl⟩
theorem reach_zero {s : List UInt8} {p : PatT} {bs : List Bool} (hb : bs.length = s.length + 1) : reachL s p bs 0 0 = bs := by
  rw [reachL_self hb, nowL_zero hb]
theorem reach_more {s : List UInt8} {p : PatT} {bs : List Bool} (hb : bs.length = s.length + 1) {k : Nat} (hm : moreB (reachL s p bs 0 k) (nowL s p bs (k + 1)) = true) : cntL (reachL s p bs 0 k) + 1 ≤ cntL (reachL s p bs 0 (k + 1)) := by
  rw [← reachL_succ hb (Nat.zero_le _)]
  exact (cntL_or (by rw [reachL_len, nowL_len])).2 hm
theorem shP1_mk (p : PatT) : pP1 p = .agg [.int .i64 p.low, .int .i64 p.high, .str p.codes, .str p.text, .sl p.alts.length (encAl p.alts)] := rfl
end Go.Proofs.Ytdegegajoccdjaa
