/- A map of the call's own, from integers to truths; the slots that were met, as such a map. -/
import Derived.Test.YtdegegajoccdjaaCeP
import Derived.Maps.OwnSet
namespace Go.Proofs.Ytdegegajoccdjaa
open Go.RowKit Go.Maps
set_option linter.unusedVariables false
set_option linter.unusedSimpArgs false

theorem plainElem_bool_inv {H : Type} {P : Program} {e : TypeId} (he : P.underlying e = some .bool) {v : Value} {z : DataW H × List MemPlace} (h : plainElem P e v = some z) : ∃ a, v = .bool a ∧ z = (.lit (.bool a), []) := by
  unfold plainElem at h
  rw [he] at h
  cases v <;> simp at h
  exact ⟨_, rfl, h.symm⟩
theorem lookup_bool {H : Type} {P : Program} {w : World} {k t e : TypeId} {b n : Nat} {D : DataW H} (h : w.ownsMap P k (plainElem P e) b n D) (K : Keyed P k) (ht : P.underlying t = some (.map k e)) (he : P.underlying e = some .bool) (hz : (zeroValue e).run P w = .ok (.bool false) w)
    {key : Value} {kl : Lit} (hkey : keyOf P k key = some kl) : ∃ c, (Instr.lookup t (.map (some b)) key false).run P w = .ok (.bool c) w ∧ D.atKey kl (.lit (.bool false)) = .lit (.bool c) := by
  obtain ⟨v, ps, hrun, hv⟩ := h.lookup K ht hz (plainElem_bool he false) hkey
  obtain ⟨c, rfl, hc⟩ := plainElem_bool_inv he hv
  simp only [Prod.mk.injEq] at hc
  exact ⟨c, hrun, hc.1⟩
/-- The slots of some seats. -/
def slotsD (l : List SeT) : DataW Unit := l.foldl (fun D x => D.put (.int .i64 x.slot) (.lit (.bool true))) (.map [])
theorem slotsD_snoc (l : List SeT) (x : SeT) : slotsD (l ++ [x]) = (slotsD l).put (.int .i64 x.slot) (.lit (.bool true)) := by
  unfold slotsD
  rw [List.foldl_append]
  rfl
theorem foldl_isMap : ∀ (l : List SeT) (D : DataW Unit), IsMap D → IsMap (l.foldl (fun D x => D.put (.int .i64 x.slot) (.lit (.bool true))) D)
  | [], _, h => h
  | x :: t, _, h => foldl_isMap t _ (h.put _ _)
theorem slotsD_isMap (l : List SeT) : IsMap (slotsD l) := foldl_isMap l _ isMap_empty
theorem foldl_at (k : Int) (hk : WideAt.IsKeyLit (.int .i64 k)) : ∀ (l : List SeT) (D : DataW Unit) (b : Bool), IsMap D → D.atKey (.int .i64 k) (.lit (.bool false)) = .lit (.bool b) →
    (l.foldl (fun D x => D.put (.int .i64 x.slot) (.lit (.bool true))) D).atKey (.int .i64 k) (.lit (.bool false)) = .lit (.bool (b || l.any fun y => y.slot == k))
  | [], D, b, _, h => by rw [List.any_nil, Bool.or_false]; exact h
  | x :: t, D, b, hD, h => by
    rw [List.foldl_cons, List.any_cons]
    by_cases hx : x.slot = k
    · rw [foldl_at k hk t _ true (hD.put _ _) (by rw [hx]; exact atKey_put_same hD hk _ _), show (x.slot == k) = true from beq_iff_eq.2 hx]
      simp
    · rw [foldl_at k hk t _ b (hD.put _ _) (by rw [atKey_put_other (fun e => hx (by injection e with _ e; exact e.symm))]; exact h), show (x.slot == k) = false from beq_eq_false_iff_ne.2 hx]
      simp
theorem slotsD_at (l : List SeT) (k : Int) (hk : WideAt.IsKeyLit (.int .i64 k)) : (slotsD l).atKey (.int .i64 k) (.lit (.bool false)) = .lit (.bool (l.any fun y => y.slot == k)) := by
  have := foldl_at k hk l (.map []) false isMap_empty rfl
  rwa [Bool.false_or] at this
end Go.Proofs.Ytdegegajoccdjaa
