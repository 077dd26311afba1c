/- slices.Clone of an empty slice of writes: by hand. -/
import Derived.Test.YtjbjgeekglpmlaaHbL
import Derived.Laws.Externs
import Derived.WalkKit
import Derived.Lib.Walk
import Derived.Lib.SliceRun
import Derived.OwnWalk
import Derived.Laws.Cover3
namespace Go.Proofs.Ytjbjgeekglpmlaa
open Go.RowKit Go.Lib
set_option linter.unusedVariables false
set_option linter.unusedSimpArgs false
theorem eql_nil (a : Option Addr) (n c : Nat) (w : World) : (binOp .eql 35 (.slice a n c) (.slice none 0 0)).run Try.prog w = .ok (.bool a.isNone) w := by
  simp only [binOp]
  simp [run_equal_slice_nil (P := Try.prog) w 35 47 a n c Try.underlying35]
set_option maxHeartbeats 2000000 in
set_option maxRecDepth 100000 in
theorem cloP_nil (c : Nat) (w : World) : Calls Try.prog 72 #[.slice none 0 c] w fun e w' => ∃ a' c', e = .returned (.slice a' 0 c') ∧ Below w.heap.size w w' := by
  go_enter Try.func72, Try.ntmps72
  go_wp2
  rw [eql_nil]
  go_wp2
  go_ret
  exact ⟨_, _, rfl, Below.refl _ _⟩
set_option maxHeartbeats 2000000 in
set_option maxRecDepth 100000 in
theorem cloP_some (a : Addr) (c : Nat) (w : World) : Calls Try.prog 72 #[.slice (some a) 0 c] w fun e w' => ∃ a' c', e = .returned (.slice a' 0 c') ∧ Below w.heap.size w w' := by
  go_enter Try.func72, Try.ntmps72
  go_wp2
  rw [eql_nil]
  go_wp2
  go_ret
  exact ⟨_, _, rfl, Below.alloc (B := w.heap.size) (a := w) (w := w) (Below.refl _ _) (Nat.le_refl _) _⟩
end Go.Proofs.Ytjbjgeekglpmlaa
