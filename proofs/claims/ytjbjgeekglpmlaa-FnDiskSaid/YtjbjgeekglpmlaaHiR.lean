/- What a disk reads, as an entry. -/
import Derived.Test.YtjbjgeekglpmlaaHiB
import Derived.Test.YtjbjgeekglpmlaaHhP
namespace Go.Proofs.Ytjbjgeekglpmlaa
open Go.RowKit
set_option linter.unusedVariables false
set_option linter.unusedSimpArgs false
set_option maxRecDepth 100000

noncomputable def E_read : Entry := fun ivs => match ivs with
  | [.cv (.pv p), .cv (.pv (.int .i64 i))] => [(isDk p && decide (0 ≤ i) && decide (i < ((asDk p).secs.length : Int)), cS (lastW (asDk p).puts.reverse i ((asDk p).secs.getD i.toNat ⟨#[]⟩)), [])]
  | _ => []
/-- The cells of a committed list. -/
theorem PRep.sl_at {w : World} {com : Nat → Nat} {v : Value} {n : Nat} {l : List PV} (h : PRep w com v (.sl n l)) (hf : ∀ b, w.heap.size ≤ b → com b = 0) :
    (∃ a c, v = .slice a n c) ∧ (l = [] ∨ ∃ b off c, v = .slice (some ⟨b, off, none⟩) n c ∧ b < w.heap.size ∧ ∀ j p, l[j]? = some p → ∃ u, w.cell? ⟨b, off + j, none⟩ = some u ∧ PRep w com u p) := by
  cases h with
  | sl0 a c => exact ⟨⟨_, _, rfl⟩, .inl rfl⟩
  | sl b off n cap cs l hn hl h1 hc hm he =>
    refine ⟨⟨_, _, rfl⟩, ?_⟩
    cases l with
    | nil => exact .inl rfl
    | cons p0 l0 =>
      refine .inr ⟨b, off, cap, rfl, ?_, fun j p hp => ?_⟩
      · have := hc 0 (by simp)
        rcases Nat.lt_or_ge b w.heap.size with h | h
        · exact h
        · rw [hf b h] at this; exact absurd this (Nat.not_lt_zero _)
      · obtain ⟨hj, e⟩ := List.getElem?_eq_some_iff.1 hp
        have hj' : j < cs.length := by rw [hl]; exact hj
        refine ⟨cs[j], hm j _ (List.getElem?_eq_getElem hj'), ?_⟩
        rw [← e]
        exact he j hj' hj
theorem encP_at (t : List PutT) (j : Nat) (h : j < t.length) : (encP t)[j * 2]? = some (.int .i64 t[j].at_) ∧ (encP t)[j * 2 + 1]? = some (.str t[j].byt) := by
  have e := drop_encP t j h
  have e1 := congrArg (fun l : List PV => l[0]?) e
  have e2 := congrArg (fun l : List PV => l[1]?) e
  simp only [List.getElem?_drop, List.getElem?_cons_zero, List.getElem?_cons_succ, Nat.add_zero] at e1 e2
  exact ⟨e1, e2⟩
theorem ok_read : EntryOk Try.prog 44 E_read := ⟨⟨_, ⟨Try.func44, by kernel_rfl, by kernel_rfl⟩⟩, fun ivs res bxs h => by
  unfold E_read at h
  split at h
  · rename_i p i
    obtain ⟨hc, he⟩ := pick1 h
    cases he
    simp only [Bool.and_eq_true, decide_eq_true_eq] at hc
    obtain ⟨⟨h1, h2⟩, h3⟩ := hc
    obtain ⟨d, rfl, hd⟩ := isDk_inv h1
    have e1 : asDk (pDk d) = d := asDk_mk d
    rw [e1] at h3 ⊢
    obtain ⟨I, rfl⟩ := Int.eq_ofNat_of_zero_le h2
    rw [Int.toNat_natCast]
    have hI : I < d.secs.length := by omega
    refine contract_flatG (ps := [pDk d, .int .i64 (I : Int)]) (p := .str _) rfl fun w com vals hv hfr hgl => ?_
    obtain ⟨v, vs, rfl, hv1, hv⟩ := hv.of_cons
    obtain ⟨v2, vs, rfl, hv2, hn⟩ := hv.of_cons
    rw [hn.of_nil]
    cases hv2
    unfold pDk at hv1
    cases hv1 with
    | agg cs l hl h1c he =>
      have hcl : PReps w com cs [.int .i64 d.wide, pL d.secs, pPs d.puts] := ⟨hl, he⟩
      obtain ⟨u1, cs, rfl, hu1, hcl⟩ := hcl.of_cons
      obtain ⟨u2, cs, rfl, hu2, hcl⟩ := hcl.of_cons
      obtain ⟨u3, cs, rfl, hu3, hcl⟩ := hcl.of_cons
      obtain rfl := hcl.of_nil
      cases hu1
      obtain ⟨_, hs⟩ := PRep.sl_at hu2 hfr
      rcases hs with hs | ⟨sb, so, sc, rfl, hsb, hcell⟩
      · have := congrArg List.length hs
        rw [List.length_map, List.length_nil] at this
        omega
      obtain ⟨⟨pa, pc, rfl⟩, hp⟩ := PRep.sl_at hu3 hfr
      obtain ⟨x, hx, hxr⟩ := hcell I (.str d.secs[I]) (by rw [List.getElem?_map, List.getElem?_eq_getElem hI]; rfl)
      cases hxr
      have hgd : d.secs.getD I ⟨#[]⟩ = d.secs[I] := by rw [List.getD_eq_getElem?_getD, List.getElem?_eq_getElem hI]; rfl
      rw [hgd]
      refine (callsIn_wide (n := 8)).1 (read_in Fence.wide 8 trivial trivial trivial rfl (by omega) d.wide sb so _ sc pa pc d.puts (by have := hd.2.2.1; omega) I d.secs[I] w hI hx hsb ?_ _ rfl)
      rcases hp with hp | ⟨b, off, c, e, hb, hcs⟩
      · left
        have := congrArg List.length hp
        rw [encP_len, List.length_nil] at this
        exact List.length_eq_zero_iff.1 (by omega)
      · cases e
        refine .inr ⟨b, off, rfl, hb, fun j hj => ?_⟩
        obtain ⟨a1, a2⟩ := encP_at d.puts j hj
        obtain ⟨y1, k1, r1⟩ := hcs _ _ a1
        obtain ⟨y2, k2, r2⟩ := hcs _ _ a2
        cases r1
        cases r2
        exact ⟨k1, by rw [Nat.add_assoc]; exact k2⟩
  · cases h⟩
theorem lastW_read (t : List PutT) : ∀ (ss : List ByteArray) (i : Nat), i < ss.length → lastW t.reverse i (ss.getD i ⟨#[]⟩) = readS t ss i := by
  induction t with
  | nil => intro ss i hi; rfl
  | cons x t ih =>
    intro ss i hi
    unfold readS
    rw [← ih _ i (by rw [setS_len]; exact hi), List.reverse_cons]
    unfold lastW
    rw [List.find?_append]
    cases hf : t.reverse.find? (fun p => p.at_ == (i : Int)) with
    | some y => rfl
    | none =>
      simp only [Option.none_or, List.find?_cons, List.find?_nil]
      cases hx : (x.at_ == (i : Int)) with
      | true =>
        have hx := beq_iff_eq.1 hx
        show x.byt = _
        unfold setS
        rw [hx, if_pos (by omega), Int.toNat_natCast, Option.map_none, Option.getD_none, List.getD_eq_getElem?_getD, List.getElem?_set_self hi]
        rfl
      | false =>
        have hx := beq_eq_false_iff_ne.1 hx
        show ss.getD i _ = _
        unfold setS
        split
        · rw [Option.map_none, Option.getD_none, List.getD_eq_getElem?_getD, List.getD_eq_getElem?_getD, List.getElem?_set_ne (by omega)]
        · rfl
end Go.Proofs.Ytjbjgeekglpmlaa
