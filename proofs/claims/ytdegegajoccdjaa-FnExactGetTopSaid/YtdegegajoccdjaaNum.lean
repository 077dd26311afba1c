/- The drawn numbers: l01Num, A8Num. -/
import Derived.Test.YtdegegajoccdjaaPick
namespace Go.Proofs.Ytdegegajoccdjaa
open Go.RowKit
set_option linter.unusedVariables false

theorem Src.alloc {n : Nat} {w : World} {g : Nat} (h : Src n w g) (o : Obj) : Src n (w.alloc o) g := h.keep fun b hb => Below.heap_alloc w o b (by have := h.lt; omega)

end Go.Proofs.Ytdegegajoccdjaa
