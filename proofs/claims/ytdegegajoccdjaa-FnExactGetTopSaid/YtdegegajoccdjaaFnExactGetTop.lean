/- The program reads superblocks as the reference does: the walk. -/
import Derived.Test.YtdegegajoccdjaaCiP
import Derived.Test.YtdegegajoccdjaaCcP
namespace Go.Proofs.Ytdegegajoccdjaa
open Go.RowKit
set_option linter.unusedVariables false

theorem FnExactGetTop_walk (s : ByteArray) (w : World) (hgl : Gl w (comTop w)) :
    Calls Try.prog 4 #[.string s] w fun e w' => e = .returned (.bool true) ∧ Below w.heap.size w w' := GetTop_walk (ok_ITop ok_seatsOk) ok_IPut s w hgl
end Go.Proofs.Ytdegegajoccdjaa
