/- The walk of the law FnPatterns, by the reckoner. -/
import Derived.Test.YtdegegajoccdjaaGlP
namespace Go.Proofs.Ytdegegajoccdjaa
open Go.RowKit
set_option linter.unusedVariables false
set_option maxRecDepth 100000
theorem FnPatterns_walk (v : Value) (n : Nat) (l : List PV) (w : World) (hv : PRep w (comTop w) v (.sl n l)) (hw : wfB n l = true) (hgl : Gl w (comTop w)) :
    Calls Try.prog 3 #[v] w fun e w' => e = .returned (.bool true) ∧ Below w.heap.size w w' := by
  have hc : Contract Try.prog 3 ([.sl n l].map fun p => .cv (.pv p)) (.cv (.pv (.bool true))) [] :=
    fun_okB mix (tabL_ok (l := glb2) ok_glb2) (O := OL []) (LO := LO0) ⟨Try.func3, by kernel_rfl, by kernel_rfl⟩ (by kernel_rfl) rfl (noLoop (by kernel_rfl)) (law_any n l hw)
  exact hc.lawTop (w := w) (vals := [v]) (PReps.cons hv (PReps.nil _ _)) hgl
end Go.Proofs.Ytdegegajoccdjaa
