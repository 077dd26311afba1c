/- The contract of the source's 'next'. -/
import Derived.Test.YtdegegajoccdjaaSrc
namespace Go.Proofs.Ytdegegajoccdjaa
open Go.RowKit
set_option linter.unusedVariables false

set_option maxHeartbeats 1000000 in
theorem next_any (n : Nat) (w : World) (g : Nat) (h : Src n w g) (hn : n ≤ 1000000000000) :
    Calls Try.prog 52 #[.pointer (some ⟨g, 0, none⟩)] w (SrcPost (fun r => 0 ≤ r ∧ r < 256) (n + 1) w g) := by
  obtain ⟨a, len, cap, p, s, hg, hl, hp, hb⟩ := h
  have c0 : w.cell? ⟨g, 0, none⟩ = some (.slice a len cap) := cell_of_row w g 0 _ _ _ hg
  have c1 : w.cell? ⟨g, 1, none⟩ = some (.int .i64 p) := cell_of_row w g 1 _ _ _ hg
  have c2 : w.cell? ⟨g, 2, none⟩ = some (.int .u64 s) := cell_of_row w g 2 _ _ _ hg
  have f1 : w.frozen? ⟨g, 1, none⟩ = false := by simp [World.frozen?, hg]
  have f2 : w.frozen? ⟨g, 2, none⟩ = false := by simp [World.frozen?, hg]
  have HG := Lib.hid hg
  clear hg
  by_cases hlt : p < len
  · obtain ⟨b, off, rfl, hbg, hc⟩ := hb (by omega)
    obtain ⟨z, hz, hcz⟩ := hc p hlt
    clear hc
    go_enter Try.func52, Try.ntmps52
    go_wp2
    go_quiet (fail)
    go_wp2
    go_quiet (fail)
    go_wp2
    go_quiet (fail)
    go_wp2
    go_ret
    exact ⟨z, by omega, rfl, Src.step HG.out hl hp hb _ _⟩
  · go_enter Try.func52, Try.ntmps52
    go_wp2
    go_quiet (fail)
    go_wp2
    go_quiet (fail)
    go_wp2
    go_ret
    exact ⟨_, wrap_and255 _, rfl, Src.step HG.out hl hp hb _ _⟩
end Go.Proofs.Ytdegegajoccdjaa
