/- Contracts of the reckoner, told to walks by hand. -/
import Derived.Test.YtdegegajoccdjaaCdP
namespace Go.Proofs.Ytdegegajoccdjaa
open Go.RowKit
set_option linter.unusedVariables false
set_option linter.unusedSimpArgs false

theorem flat_calls {g : FuncId} {E : Entry} (hE : EntryOk Try.prog g E) {ps : List PV} {p : PV} {v : Value} (hv : p.flat = some v) (hp : pickA (E (ps.map fun p => .cv (.pv p))) = some (.cv (.pv p), []))
    {w : World} {com : Nat → Nat} {vals : List Value} (h : PReps w com vals ps) (hc : ∀ b, w.heap.size ≤ b → com b = 0) (hgl : Gl w com) :
    Calls Try.prog g vals.toArray w fun e w' => e = .returned v ∧ Below w.heap.size w w' := by
  refine (Contract.plain (hE.2 _ _ _ hp) h hc hgl).mono ?_
  rintro e w' ⟨v', com', rfl, hr, hx, hf, hk, hb⟩
  refine ⟨?_, hb⟩
  cases p <;> cases hv <;> cases hr <;> rfl
theorem little_calls {w : World} {com : Nat → Nat} (hc : ∀ b, w.heap.size ≤ b → com b = 0) (hgl : Gl w com) (n : Int) (k : Nat) (h0 : 0 ≤ n) (hk : k ≤ 8) :
    Calls Try.prog 47 #[.int .i64 n, .int .i64 k] w fun e w' => e = .returned (.string (litV n k)) ∧ Below w.heap.size w w' := by
  refine flat_calls (ps := [.int .i64 n, .int .i64 k]) (p := .str (litV n k)) ok_little rfl ?_ (vals := [.int .i64 n, .int .i64 k]) (.cons (.int _ _) (.cons (.int _ _) (PReps.nil _ _))) hc hgl
  show pickA [(decide (0 ≤ n) && decide (0 ≤ (k : Int)) && decide ((k : Int) ≤ 8), cS (litV n (k : Int).toNat), [])] = _
  rw [dT h0, dT (show (0 : Int) ≤ (k : Int) by omega), dT (show (k : Int) ≤ 8 by omega), Int.toNat_natCast]
  rfl
theorem stamped_calls {w : World} {com : Nat → Nat} (hc : ∀ b, w.heap.size ≤ b → com b = 0) (hgl : Gl w com) (s t : ByteArray) (n : Nat) (hs : s.size ≤ 1000000) (ht : t.size ≤ 1000000) (hn : n ≤ 100000) :
    Calls Try.prog 49 #[.string s, .string t, .int .i64 n] w fun e w' => e = .returned (.string (stV s t n)) ∧ Below w.heap.size w w' := by
  refine flat_calls (ps := [.str s, .str t, .int .i64 n]) (p := .str (stV s t n)) ok_St rfl ?_ (vals := [.string s, .string t, .int .i64 n]) (.cons (.str _) (.cons (.str _) (.cons (.int _ _) (PReps.nil _ _)))) hc hgl
  show pickA [(decide (0 ≤ (n : Int)) && decide ((n : Int) ≤ 100000) && holds (s.size ≤ 1000000) && holds (t.size ≤ 1000000), cS (hidS (stV s t (n : Int).toNat)), [])] = _
  rw [dT (show (0 : Int) ≤ (n : Int) by omega), dT (show (n : Int) ≤ 100000 by omega), holds_mk hs, holds_mk ht, Int.toNat_natCast, hidS_eq]
  rfl
end Go.Proofs.Ytdegegajoccdjaa
