import Derived.Test.YtbjfffimnoanpaaGreatDoorXXh
import Derived.Test.YtbjfffimnoanpaaGreatDoorXXe
import Derived.Test.YtbjfffimnoanpaaGreatDoorXXg
import Derived.ChangeSlices
import Derived.WideShapes
import Derived.OpenShut
namespace Go.Proofs.YtbjfffimnoanpaaGreatDoor
open _root_.ByteArray (size toList)
open Int (toNat)
open Go.IntKind (wrap)
open List (drop headD length map tail)
open Nat (beq)
open PV (asStr int isSl isStr nilp sl str)
open Tryz (prog)
open Go.RowKit
noncomputable section
set_option linter.unusedVariables false
set_option maxRecDepth 100000
set_option linter.unusedSimpArgs false
theorem joo(s:ByteArray)(i:Int):q_li brC s i=brC (okI s i&&(lexO (SL s i)&&isS (SL s i) { data:=#[40] })) (brC (okI s (i1 s i)&&beq 0 0&&beq 0 0&&beq 23 23&&beq 28672 28672&&beq 48 48&&beq 0 0&&nilB []) (brC (okI s (ljE s (i1 s i) false)&&(lexO (SL s (ljE s (i1 s i) false))&&isS (SL s (ljE s (i1 s i) false)) { data:=#[41] })) (brC (ljB s (i1 s i) false) (some ((.cv (.lst 3 48 (length (liL s (i1 s i) false)) (encEx (liL s (i1 s i) false)) false),[[.pv (.str s),.pv (.int .i64 (i1 s (ljE s (i1 s i) false))),.pv (.bool true)]]))) (some ((.cv (.lst 3 48 (length (liL s (i1 s i) false)) (encEx (liL s (i1 s i) false)) false),[[.pv (.str s),.pv (.int .i64 (i1 s (ljE s (i1 s i) false))),.pv (.bool (decide ((↑(length (liL s (i1 s i) false)):Int)>120)))]])))) (brC (okI s (ljE s (i1 s i) false)) (some ((.cv (.lst 3 48 (length (liL s (i1 s i) false)) (encEx (liL s (i1 s i) false)) false),[[.pv (.str s),.pv (.int .i64 (ljE s (i1 s i) false)),.pv (.bool true)]]))) none)) none) (brC (okI s i) (brC (okI s i&&beq 0 0&&beq 0 0&&beq 23 23&&beq 28672 28672&&beq 48 48&&beq 0 0&&nilB []) (brC (okI s (ljE s i true)&&(lexO (SL s (ljE s i true))&&isS (SL s (ljE s i true)) { data:=#[41] })) (brC (ljB s i true) (some ((.cv (.lst 3 48 (length (liL s i true)) (encEx (liL s i true)) false),[[.pv (.str s),.pv (.int .i64 (i1 s (ljE s i true))),.pv (.bool true)]]))) (some ((.cv (.lst 3 48 (length (liL s i true)) (encEx (liL s i true)) false),[[.pv (.str s),.pv (.int .i64 (i1 s (ljE s i true))),.pv (.bool (decide ((↑(length (liL s i true)):Int)>120)))]])))) (brC (okI s (ljE s i true)) (some ((.cv (.lst 3 48 (length (liL s i true)) (encEx (liL s i true)) false),[[.pv (.str s),.pv (.int .i64 (ljE s i true)),.pv (.bool true)]]))) none)) none) none):=by kernel_rfl
theorem jlU(s:ByteArray):jpj brC s=brC (decide ((↑(size s):Int)>120)) (some ((.tup [.cv (.pv (.bool false)),.cv (.pv (.str { data:=#[] })),.cv (.lst 1 9 0 [] false),.cv (.pv (.int .i64 (Int.ofNat 4)))],[]))) (brC (decide (size s<=120)) (some ((.tup [.cv (.pv (.bool (rfG s))),.cv (.pv (.str (rfN s))),.cv (.pv (.sl (length (rfL s)) (map str (rfL s)))),.cv (.pv (.int .i64 (rfC s)))],[]))) none):=by kernel_rfl
def zzad0(s:ByteArray):=(lexE (SL s (lexE (SL s (lexE (SL s 0) 0)) (lexE (SL s 0) 0))) (lexE (SL s (lexE (SL s 0) 0)) (lexE (SL s 0) 0)))
def zzad1(s:ByteArray):=(sl (length (lsL s (lexE (SL s (lexE (SL s 0) 0)) (lexE (SL s 0) 0)) true)) (map str (lsL s (lexE (SL s (lexE (SL s 0) 0)) (lexE (SL s 0) 0)) true)))
theorem jnW(s:ByteArray):q_rr brC s=brC (okS s 0&&lexO (SL s 0)&&isS (SL s 0) { data:=#[94] }) (brC (okS s (lexE (SL s 0) 0)&&lexO (SL s (lexE (SL s 0) 0))&&nmS (SL s (lexE (SL s 0) 0))) (brC (okS s (lexE (SL s (lexE (SL s 0) 0)) (lexE (SL s 0) 0))&&lexO (SL s (lexE (SL s (lexE (SL s 0) 0)) (lexE (SL s 0) 0)))&&isS (SL s (lexE (SL s (lexE (SL s 0) 0)) (lexE (SL s 0) 0))) { data:=#[40] }) (brC (okS s (zzad0 s)&&decide (size s<=1000)&&beq 24576 24576&&beq 36864 36864&&beq 9 9&&beq 0 0&&nilB []) (brC (lsB s (zzad0 s) false) (some ((.tup [.cv (.pv (.bool false)),.cv (.pv (.str { data:=#[] })),.cv (.lst 1 9 0 [] false),.cv (.pv (.int .i64 (Int.ofNat 6)))],[]))) (brC (lsE s (zzad0 s) false !=(↑(size s):Int)) (some ((.tup [.cv (.pv (.bool false)),.cv (.pv (.str { data:=#[] })),.cv (.lst 1 9 0 [] false),.cv (.pv (.int .i64 (Int.ofNat 6)))],[]))) (brC (isL (sl (length (lsL s (zzad0 s) false)) (map str (lsL s (zzad0 s) false)))) (brC (!subsB (asL (sl (length (lsL s (zzad0 s) false)) (map str (lsL s (zzad0 s) false))))) (some ((.tup [.cv (.pv (.bool false)),.cv (.pv (.str { data:=#[] })),.cv (.lst 1 9 0 [] false),.cv (.pv (.int .i64 (Int.ofNat 2)))],[]))) (some ((.tup [.cv (.pv (.bool true)),.cv (.pv (.str (tx (SL s (lexE (SL s 0) 0))))),.cv (.lst 1 9 (length (lsL s (zzad0 s) false)) (map str (lsL s (zzad0 s) false)) false),.cv (.pv (.int .i64 (Int.ofNat 0)))],[])))) none))) none) (brC (okS s (lexE (SL s (lexE (SL s 0) 0)) (lexE (SL s 0) 0))&&lexO (SL s (lexE (SL s (lexE (SL s 0) 0)) (lexE (SL s 0) 0)))) (brC (lexE (SL s (lexE (SL s 0) 0)) (lexE (SL s 0) 0) !=(↑(size s):Int)) (some ((.tup [.cv (.pv (.bool false)),.cv (.pv (.str { data:=#[] })),.cv (.lst 1 9 0 [] false),.cv (.pv (.int .i64 (Int.ofNat 6)))],[]))) (brC (isL (sl 0 [])) (brC (!subsB (asL (sl 0 []))) (some ((.tup [.cv (.pv (.bool false)),.cv (.pv (.str { data:=#[] })),.cv (.lst 1 9 0 [] false),.cv (.pv (.int .i64 (Int.ofNat 2)))],[]))) (some ((.tup [.cv (.pv (.bool true)),.cv (.pv (.str (tx (SL s (lexE (SL s 0) 0))))),.cv (.lst 1 9 0 [] false),.cv (.pv (.int .i64 (Int.ofNat 0)))],[])))) none)) (brC (okS s (lexE (SL s (lexE (SL s 0) 0)) (lexE (SL s 0) 0))) (some ((.tup [.cv (.pv (.bool false)),.cv (.pv (.str { data:=#[] })),.cv (.lst 1 9 0 [] false),.cv (.pv (.int .i64 (Int.ofNat 6)))],[]))) none))) (brC (okS s (lexE (SL s 0) 0)) (brC (okS s (lexE (SL s 0) 0)&&lexO (SL s (lexE (SL s 0) 0))&&isS (SL s (lexE (SL s 0) 0)) { data:=#[40] }) (brC (okS s (lexE (SL s (lexE (SL s 0) 0)) (lexE (SL s 0) 0))&&decide (size s<=1000)&&beq 24576 24576&&beq 36864 36864&&beq 9 9&&beq 0 0&&nilB []) (brC (lsB s (lexE (SL s (lexE (SL s 0) 0)) (lexE (SL s 0) 0)) true) (some ((.tup [.cv (.pv (.bool false)),.cv (.pv (.str { data:=#[] })),.cv (.lst 1 9 0 [] false),.cv (.pv (.int .i64 (Int.ofNat 6)))],[]))) (brC (lsE s (lexE (SL s (lexE (SL s 0) 0)) (lexE (SL s 0) 0)) true !=(↑(size s):Int)) (some ((.tup [.cv (.pv (.bool false)),.cv (.pv (.str { data:=#[] })),.cv (.lst 1 9 0 [] false),.cv (.pv (.int .i64 (Int.ofNat 6)))],[]))) (brC (isL (zzad1 s)) (brC (!subsB (asL (zzad1 s))) (some ((.tup [.cv (.pv (.bool false)),.cv (.pv (.str { data:=#[] })),.cv (.lst 1 9 0 [] false),.cv (.pv (.int .i64 (Int.ofNat 2)))],[]))) (some ((.tup [.cv (.pv (.bool true)),.cv (.pv (.str { data:=#[] })),.cv (.lst 1 9 (length (lsL s (lexE (SL s (lexE (SL s 0) 0)) (lexE (SL s 0) 0)) true)) (map str (lsL s (lexE (SL s (lexE (SL s 0) 0)) (lexE (SL s 0) 0)) true)) false),.cv (.pv (.int .i64 (Int.ofNat 0)))],[])))) none))) none) (brC (okS s (lexE (SL s 0) 0)&&lexO (SL s (lexE (SL s 0) 0))) (some ((.tup [.cv (.pv (.bool false)),.cv (.pv (.str { data:=#[] })),.cv (.lst 1 9 0 [] false),.cv (.pv (.int .i64 (Int.ofNat 6)))],[]))) (brC (okS s (lexE (SL s 0) 0)) (some ((.tup [.cv (.pv (.bool false)),.cv (.pv (.str { data:=#[] })),.cv (.lst 1 9 0 [] false),.cv (.pv (.int .i64 (Int.ofNat 6)))],[]))) none))) none)) (brC (okS s 0&&lexO (SL s 0)) (brC (okS s 0&&lexO (SL s 0)&&nmS (SL s 0)) (brC (okS s (lexE (SL s 0) 0)&&lexO (SL s (lexE (SL s 0) 0))&&isS (SL s (lexE (SL s 0) 0)) { data:=#[40] }) (brC (okS s (lexE (SL s (lexE (SL s 0) 0)) (lexE (SL s 0) 0))&&decide (size s<=1000)&&beq 24576 24576&&beq 36864 36864&&beq 9 9&&beq 0 0&&nilB []) (brC (lsB s (lexE (SL s (lexE (SL s 0) 0)) (lexE (SL s 0) 0)) false) (some ((.tup [.cv (.pv (.bool false)),.cv (.pv (.str { data:=#[] })),.cv (.lst 1 9 0 [] false),.cv (.pv (.int .i64 (Int.ofNat 6)))],[]))) (brC (lsE s (lexE (SL s (lexE (SL s 0) 0)) (lexE (SL s 0) 0)) false !=(↑(size s):Int)) (some ((.tup [.cv (.pv (.bool false)),.cv (.pv (.str { data:=#[] })),.cv (.lst 1 9 0 [] false),.cv (.pv (.int .i64 (Int.ofNat 6)))],[]))) (brC (isL (sl (length (lsL s (lexE (SL s (lexE (SL s 0) 0)) (lexE (SL s 0) 0)) false)) (map str (lsL s (lexE (SL s (lexE (SL s 0) 0)) (lexE (SL s 0) 0)) false)))) (brC (!subsB (asL (sl (length (lsL s (lexE (SL s (lexE (SL s 0) 0)) (lexE (SL s 0) 0)) false)) (map str (lsL s (lexE (SL s (lexE (SL s 0) 0)) (lexE (SL s 0) 0)) false))))) (some ((.tup [.cv (.pv (.bool false)),.cv (.pv (.str { data:=#[] })),.cv (.lst 1 9 0 [] false),.cv (.pv (.int .i64 (Int.ofNat 2)))],[]))) (some ((.tup [.cv (.pv (.bool false)),.cv (.pv (.str (tx (SL s 0)))),.cv (.lst 1 9 (length (lsL s (lexE (SL s (lexE (SL s 0) 0)) (lexE (SL s 0) 0)) false)) (map str (lsL s (lexE (SL s (lexE (SL s 0) 0)) (lexE (SL s 0) 0)) false)) false),.cv (.pv (.int .i64 (Int.ofNat 0)))],[])))) none))) none) (brC (okS s (lexE (SL s 0) 0)&&lexO (SL s (lexE (SL s 0) 0))) (brC (lexE (SL s 0) 0 !=(↑(size s):Int)) (some ((.tup [.cv (.pv (.bool false)),.cv (.pv (.str { data:=#[] })),.cv (.lst 1 9 0 [] false),.cv (.pv (.int .i64 (Int.ofNat 6)))],[]))) (brC (isL (sl 0 [])) (brC (!subsB (asL (sl 0 []))) (some ((.tup [.cv (.pv (.bool false)),.cv (.pv (.str { data:=#[] })),.cv (.lst 1 9 0 [] false),.cv (.pv (.int .i64 (Int.ofNat 2)))],[]))) (some ((.tup [.cv (.pv (.bool false)),.cv (.pv (.str (tx (SL s 0)))),.cv (.lst 1 9 0 [] false),.cv (.pv (.int .i64 (Int.ofNat 0)))],[])))) none)) (brC (okS s (lexE (SL s 0) 0)) (some ((.tup [.cv (.pv (.bool false)),.cv (.pv (.str { data:=#[] })),.cv (.lst 1 9 0 [] false),.cv (.pv (.int .i64 (Int.ofNat 6)))],[]))) none))) (brC (okS s 0) (brC (okS s 0&&lexO (SL s 0)&&isS (SL s 0) { data:=#[40] }) (brC (okS s (lexE (SL s 0) 0)&&decide (size s<=1000)&&beq 24576 24576&&beq 36864 36864&&beq 9 9&&beq 0 0&&nilB []) (brC (lsB s (lexE (SL s 0) 0) true) (some ((.tup [.cv (.pv (.bool false)),.cv (.pv (.str { data:=#[] })),.cv (.lst 1 9 0 [] false),.cv (.pv (.int .i64 (Int.ofNat 6)))],[]))) (brC (lsE s (lexE (SL s 0) 0) true !=(↑(size s):Int)) (some ((.tup [.cv (.pv (.bool false)),.cv (.pv (.str { data:=#[] })),.cv (.lst 1 9 0 [] false),.cv (.pv (.int .i64 (Int.ofNat 6)))],[]))) (brC (isL (sl (length (lsL s (lexE (SL s 0) 0) true)) (map str (lsL s (lexE (SL s 0) 0) true)))) (brC (!subsB (asL (sl (length (lsL s (lexE (SL s 0) 0) true)) (map str (lsL s (lexE (SL s 0) 0) true))))) (some ((.tup [.cv (.pv (.bool false)),.cv (.pv (.str { data:=#[] })),.cv (.lst 1 9 0 [] false),.cv (.pv (.int .i64 (Int.ofNat 2)))],[]))) (some ((.tup [.cv (.pv (.bool false)),.cv (.pv (.str { data:=#[] })),.cv (.lst 1 9 (length (lsL s (lexE (SL s 0) 0) true)) (map str (lsL s (lexE (SL s 0) 0) true)) false),.cv (.pv (.int .i64 (Int.ofNat 0)))],[])))) none))) none) (brC (okS s 0&&lexO (SL s 0)) (some ((.tup [.cv (.pv (.bool false)),.cv (.pv (.str { data:=#[] })),.cv (.lst 1 9 0 [] false),.cv (.pv (.int .i64 (Int.ofNat 6)))],[]))) (brC (okS s 0) (some ((.tup [.cv (.pv (.bool false)),.cv (.pv (.str { data:=#[] })),.cv (.lst 1 9 0 [] false),.cv (.pv (.int .i64 (Int.ofNat 6)))],[]))) none))) none)) (brC (okS s 0) (brC (okS s 0&&lexO (SL s 0)&&nmS (SL s 0)) (brC (okS s (lexE (SL s 0) 0)&&lexO (SL s (lexE (SL s 0) 0))&&isS (SL s (lexE (SL s 0) 0)) { data:=#[40] }) (brC (okS s (lexE (SL s (lexE (SL s 0) 0)) (lexE (SL s 0) 0))&&decide (size s<=1000)&&beq 24576 24576&&beq 36864 36864&&beq 9 9&&beq 0 0&&nilB []) (brC (lsB s (lexE (SL s (lexE (SL s 0) 0)) (lexE (SL s 0) 0)) true) (some ((.tup [.cv (.pv (.bool false)),.cv (.pv (.str { data:=#[] })),.cv (.lst 1 9 0 [] false),.cv (.pv (.int .i64 (Int.ofNat 6)))],[]))) (brC (lsE s (lexE (SL s (lexE (SL s 0) 0)) (lexE (SL s 0) 0)) true !=(↑(size s):Int)) (some ((.tup [.cv (.pv (.bool false)),.cv (.pv (.str { data:=#[] })),.cv (.lst 1 9 0 [] false),.cv (.pv (.int .i64 (Int.ofNat 6)))],[]))) (brC (isL (zzad1 s)) (brC (!subsB (asL (zzad1 s))) (some ((.tup [.cv (.pv (.bool false)),.cv (.pv (.str { data:=#[] })),.cv (.lst 1 9 0 [] false),.cv (.pv (.int .i64 (Int.ofNat 2)))],[]))) (some ((.tup [.cv (.pv (.bool false)),.cv (.pv (.str (tx (SL s 0)))),.cv (.lst 1 9 (length (lsL s (lexE (SL s (lexE (SL s 0) 0)) (lexE (SL s 0) 0)) true)) (map str (lsL s (lexE (SL s (lexE (SL s 0) 0)) (lexE (SL s 0) 0)) true)) false),.cv (.pv (.int .i64 (Int.ofNat 0)))],[])))) none))) none) (brC (okS s (lexE (SL s 0) 0)&&lexO (SL s (lexE (SL s 0) 0))) (some ((.tup [.cv (.pv (.bool false)),.cv (.pv (.str { data:=#[] })),.cv (.lst 1 9 0 [] false),.cv (.pv (.int .i64 (Int.ofNat 6)))],[]))) (brC (okS s (lexE (SL s 0) 0)) (some ((.tup [.cv (.pv (.bool false)),.cv (.pv (.str { data:=#[] })),.cv (.lst 1 9 0 [] false),.cv (.pv (.int .i64 (Int.ofNat 6)))],[]))) none))) (brC (okS s 0) (brC (okS s 0&&lexO (SL s 0)&&isS (SL s 0) { data:=#[40] }) (brC (okS s (lexE (SL s 0) 0)&&decide (size s<=1000)&&beq 24576 24576&&beq 36864 36864&&beq 9 9&&beq 0 0&&nilB []) (brC (lsB s (lexE (SL s 0) 0) true) (some ((.tup [.cv (.pv (.bool false)),.cv (.pv (.str { data:=#[] })),.cv (.lst 1 9 0 [] false),.cv (.pv (.int .i64 (Int.ofNat 6)))],[]))) (brC (lsE s (lexE (SL s 0) 0) true !=(↑(size s):Int)) (some ((.tup [.cv (.pv (.bool false)),.cv (.pv (.str { data:=#[] })),.cv (.lst 1 9 0 [] false),.cv (.pv (.int .i64 (Int.ofNat 6)))],[]))) (brC (isL (sl (length (lsL s (lexE (SL s 0) 0) true)) (map str (lsL s (lexE (SL s 0) 0) true)))) (brC (!subsB (asL (sl (length (lsL s (lexE (SL s 0) 0) true)) (map str (lsL s (lexE (SL s 0) 0) true))))) (some ((.tup [.cv (.pv (.bool false)),.cv (.pv (.str { data:=#[] })),.cv (.lst 1 9 0 [] false),.cv (.pv (.int .i64 (Int.ofNat 2)))],[]))) (some ((.tup [.cv (.pv (.bool false)),.cv (.pv (.str { data:=#[] })),.cv (.lst 1 9 (length (lsL s (lexE (SL s 0) 0) true)) (map str (lsL s (lexE (SL s 0) 0) true)) false),.cv (.pv (.int .i64 (Int.ofNat 0)))],[])))) none))) none) (brC (okS s 0&&lexO (SL s 0)) (some ((.tup [.cv (.pv (.bool false)),.cv (.pv (.str { data:=#[] })),.cv (.lst 1 9 0 [] false),.cv (.pv (.int .i64 (Int.ofNat 6)))],[]))) (brC (okS s 0) (some ((.tup [.cv (.pv (.bool false)),.cv (.pv (.str { data:=#[] })),.cv (.lst 1 9 0 [] false),.cv (.pv (.int .i64 (Int.ofNat 6)))],[]))) none))) none)) none)):=by kernel_rfl
theorem jkq(t:ByteArray)(s:ByteArray)(nm:ByteArray)(i:Int)(b:Bool)(g:Bool)(n:Nat)(l:List PV):r_rr brC t s nm i b g n l=brC (!b) (brC (okS s i&&decide (size s<=1000)) (brC (beq (length [str (litT s i)]) (1*1)&&(decide (n+1<=140737488351232)&&decide ((n+1)*16<=140737488355328))) (brC (okS s (litE s i)&&lexO (SL s (litE s i))&&isS (SL s (litE s i)) { data:=#[41] }) (some (.inr (.exit 0,[(.pv (.str t),none),(.ptr 24576 0,some (.box [.pv (.str s),.pv (.int .i64 (lexE (SL s (litE s i)) (litE s i))),.pv (.bool (b||litB s i))])),(.pv (.bool g),none),(.pv (.str nm),none),(.own 36864,some (.lst 1 9 (n+1) (l++[str (litT s i)]) false))]))) (brC (okS s (litE s i)&&lexO (SL s (litE s i))) (brC (okS s (litE s i)&&lexO (SL s (litE s i))&&isS (SL s (litE s i)) { data:=#[44] }) (some (.inl [(.pv (.str t),none),(.ptr 24576 0,some (.box [.pv (.str s),.pv (.int .i64 (lexE (SL s (litE s i)) (litE s i))),.pv (.bool (b||litB s i))])),(.pv (.bool g),none),(.pv (.str nm),none),(.own 36864,some (.lst 1 9 (n+1) (l++[str (litT s i)]) false))])) (brC (okS s (litE s i)) (some (.inl [(.pv (.str t),none),(.ptr 24576 0,some (.box [.pv (.str s),.pv (.int .i64 (litE s i)),.pv (.bool true)])),(.pv (.bool g),none),(.pv (.str nm),none),(.own 36864,some (.lst 1 9 (n+1) (l++[str (litT s i)]) false))])) none)) (brC (okS s (litE s i)) (brC (okS s (litE s i)&&lexO (SL s (litE s i))&&isS (SL s (litE s i)) { data:=#[44] }) (some (.inl [(.pv (.str t),none),(.ptr 24576 0,some (.box [.pv (.str s),.pv (.int .i64 (lexE (SL s (litE s i)) (litE s i))),.pv (.bool true)])),(.pv (.bool g),none),(.pv (.str nm),none),(.own 36864,some (.lst 1 9 (n+1) (l++[str (litT s i)]) false))])) (brC (okS s (litE s i)) (some (.inl [(.pv (.str t),none),(.ptr 24576 0,some (.box [.pv (.str s),.pv (.int .i64 (litE s i)),.pv (.bool true)])),(.pv (.bool g),none),(.pv (.str nm),none),(.own 36864,some (.lst 1 9 (n+1) (l++[str (litT s i)]) false))])) none)) none))) none) none) (some (.inr (.exit 0,[(.pv (.str t),none),(.ptr 24576 0,some (.box [.pv (.str s),.pv (.int .i64 i),.pv (.bool b)])),(.pv (.bool g),none),(.pv (.str nm),none),(.own 36864,some (.lst 1 9 n l false))]))):=by kernel_rfl
theorem jnH(s:ByteArray)(i:Int)(m:Int)(b:Bool)(n:Nat)(l:List PV):r_li brC s i m b n l=brC (!b) (brC (okI s i) (brC (beq (length [int .i64 (subK s i),str (subT s i),sl 0 []]) (1*3)&&(decide (n+1<=140737488351232)&&decide ((n+1)*48<=140737488355328))) (brC (okI s (subE s i)&&(lexO (SL s (subE s i))&&isS (SL s (subE s i)) { data:=#[44] })) (some (.inl [(.ptr 0 0,some (.box [.pv (.str s),.pv (.int .i64 (lexE (SL s (subE s i)) (subE s i))),.pv (.bool (b||subBd s i))])),(.pv (.int .i64 m),none),(.bc 23 0,none),(.own 28672,some (.lst 3 48 (n+1) (l++[int .i64 (subK s i),str (subT s i),sl 0 []]) false))])) (brC (okI s (subE s i)) (some (.inr (.exit 0,[(.ptr 0 0,some (.box [.pv (.str s),.pv (.int .i64 (subE s i)),.pv (.bool (b||subBd s i))])),(.pv (.int .i64 m),none),(.own 28672,some (.lst 3 48 (n+1) (l++[int .i64 (subK s i),str (subT s i),sl 0 []]) false))]))) none)) none) none) (some (.inr (.exit 0,[(.ptr 0 0,some (.box [.pv (.str s),.pv (.int .i64 i),.pv (.bool b)])),(.pv (.int .i64 m),none),(.own 28672,some (.lst 3 48 n l false))]))):=by kernel_rfl
section
variable {w:World} {com:Nat->Nat} {loc:Nat->Option Value}
end
def CV.frzM:CV->CV
 |.lst _ _ n l _=>.pv (.sl n l)
 |.dls _ _ n l=>.pv (.sl n l)
 |.pv .nils=>.pv (.sl 0 [])
 |c=>c
def IV.frzM1:IV->IV
 |.cv c=>.cv c.frzM
 |.agg l=>.agg (l.map CV.frzM)
 |i=>i
def IV.frzM:IV->IV
 |.tup is=>.tup (is.map IV.frzM1)
 |i=>i.frzM1
def IV.noBox:IV->Bool
 |.tup is=>is.all fun i=>!i.isBox
 |i=>!i.isBox
def comR(w:World)(com:Nat->Nat)(bs:List Nat):Nat->Nat:=fun b=>if b∈bs then com b+jbs w b else com b
section
variable {w:World} {com:Nat->Nat} {loc:Nat->Option Value}
theorem jdS(w:World)(com:Nat->Nat)(bs:List Nat):Ext w com w (comR w com bs):=⟨fun b=>by
 unfold comR;split
 .exact Nat.le_add_right _ _
 .exact Nat.le_refl _,fun _ _ _=>rfl⟩
theorem LRep.all{v:Value}{k:Nat}{e:TypeId}{n:Nat}{l:List PV}{mt:Bool}{xs:List Value}(h:LRep w com v k e n l mt xs){bs:List Nat}(hb:∀ b∈v.ownBlock.toList,b∈bs):PRep w (comR w com bs) v (.sl n l):=by
 have hlen:=h.len;have hx:=jdS w com bs;rcases h.own.2 with⟨rfl,rfl⟩|⟨g,cap,cur,rfl,hg0,hg,hnc,hcm,hcs,htake⟩
 .have:l=[]:=List.length_eq_zero_iff.1 (by simpa using hlen);subst this;exact .sl0 none 0
 .have hc:∀ i v,xs[i]?=some v->w.cell? ⟨g,0+i,none⟩=some v:=fun i u hu=>by
   have hc:=h.own.cells (g:=g) rfl i u hu;have ea:(⟨g,0,none⟩:Addr).add i=⟨g,0+i,none⟩:=by unfold Addr.add;split<;>simp_all
   rwa[ea]at hc
  refine .sl g 0 n cap xs l hnc h.reps.1 h.one (fun i hi=>?_) hc (h.reps.mono hx).2;have hlx:=h.reps.1;have:=jc7 (hc i xs[i] (List.getElem?_eq_getElem (by omega)));unfold comR;rw[if_pos (hb g (by simp[Value.ownBlock]))];omega
theorem jlC{w:World}{com:Nat->Nat}{bs B:List Nat}(hb:∀ b∈bs,b∈B):Ext w (comD w com bs) w (comR w com B):=⟨fun b=>by
 by_cases h:b∈bs
 .rw [jgW h];unfold comR;rw[if_pos (hb b h)];have:rowN w b<=jbs w b:=by
   unfold rowN jbs;cases w.heap[b]? with
   |none=>exact Nat.le_refl _
   |some o=>cases o<;>first|exact Nat.le_succ _|exact Nat.le_refl _
  omega
 .rw [jcA h];exact(jdS w com B).up b,fun _ _ _=>rfl⟩
theorem CRep.frzM{v:Value}{c:CV}{bs:List Nat}(h:CRep w com loc v c bs){B:List Nat}(hb:∀ b∈bs,b∈B):CRep w (comR w com B) loc v c.frzM []:=by
 have hx:=jdS w com B;cases h with
 |bad=>exact .bad v
 |pv p h=>
  cases p with
  |nils=>
   cases h;exact .pv _ _ (.sl0 none 0)
  |_=>exact .pv _ _ (h.mono hx)
 |al d h=>exact .al v d h
 |lst k e n l mt xs h=>exact .pv _ _ (h.all hb)
 |@dls k e n l _ xs b1 h=>exact .pv _ _ (h.still.prep.mono (jlC hb))
theorem CReps.frzM{vs:List Value}{cs:List CV}{bs:List Nat}(h:CReps w com loc vs cs bs){B:List Nat}(hb:∀ b∈bs,b∈B):CReps w (comR w com B) loc vs (cs.map CV.frzM) []:=by
 induction h with
 |nil=>exact .nil
 |cons h h1 k ih=>exact .cons (h.frzM fun b hx=>hb b (nqD.2 (.inl hx))) h1 (ih fun b hx=>hb b (nqD.2 (.inr hx)))
theorem IRep.frzM{v:Value}{i:IV}{bs:List Nat}(h:IRep w com v i bs)(hn:i.isBox=false){B:List Nat}(hb:∀ b∈bs,b∈B):IRep w (comR w com B) v i.frzM1 []:=by
 cases h with
 |cv v c bs h=>exact .cv _ _ _ (h.frzM hb)
 |agg cs l bs h=>exact .agg _ _ _ (h.frzM hb)
 |box b o cur t l bs hb hc h=>cases hn
 |lk=>cases hn
 |lkd=>cases hn
 |lag=>cases hn
theorem IReps.frzM{vs:List Value}{is:List IV}{bs:List Nat}(h:IReps w com vs is bs)(hn:(is.all fun i=>!i.isBox)=true){B:List Nat}(hb:∀ b∈bs,b∈B):IReps w (comR w com B) vs (is.map IV.frzM1) []:=by
 induction h with
 |nil=>exact .nil
 |cons h k ih=>
  rw[List.all_cons,nqE]at hn;exact .cons (h.frzM (by simpa using hn.1) fun b hx=>hb b (nqD.2 (.inl hx))) (ih hn.2 fun b hx=>hb b (nqD.2 (.inr hx)))
theorem RRep.frzM{v:Value}{i:IV}{bs:List Nat}(h:RRep w com v i bs)(hn:i.noBox=true){B:List Nat}(hb:∀ b∈bs,b∈B):RRep w (comR w com B) v i.frzM []:=by
 cases h with
 |one v i bs h=>
  have hh:=h;cases h with
  |cv v c bs h=>exact .one _ _ _ (hh.frzM rfl hb)
  |agg cs l bs h=>exact .one _ _ _ (hh.frzM rfl hb)
  |box b o cur t l bs hb hc h=>cases hn
  |lk=>cases hn
  |lkd=>cases hn
  |lag=>cases hn
 |tup vs is bs h=>exact .tup _ _ _ (h.frzM hn hb)
theorem BRep.keepM{com':Nat->Nat}{vs:List Value}{is:List IV}{bx:List (List CV)}{bs:List Nat}(h:BRep w com vs is bx bs)(x:Ext w com w com')(hb:∀ b∈bs,com' b=com b):BRep w com' vs is bx bs:=by
 induction h with
 |nil=>exact .nil
 |box b o cur t l l' bs vs is bx bs' h1 hc h k ih=>exact .box b o cur t l l' bs vs is bx bs' h1 ((hb b (by simp)).trans hc) (h.keep x (fun _ _ h=>h) fun b' hx=>⟨rfl,hb b' (by simp[hx])⟩) (ih fun b' hx=>hb b' (by simp[hx]))
 |lk g c1 v c2 pre k e n l l' post xs hl h vs is bx bs' k' ih=>exact .lk g c1 v c2 pre k e n l l' post xs hl (h.keep x fun b hv=>⟨rfl,hb b (by simp[hv])⟩) vs is bx bs' (ih fun b' hx=>hb b' (by simp[hx]))
 |lkd g c1 v c2 pre k e e2 n l l' post b0 xs b1 hl h vs is bx bs' k' ih=>exact .lkd g c1 v c2 pre k e e2 n l l' post b0 xs b1 hl (h.keep x fun b hv=>⟨rfl,hb b (by simp[hv])⟩) vs is bx bs' (ih fun b' hx=>hb b' (by simp[hx]))
 |lag cs l l' bs vs is bx bs' h k ih=>exact .lag cs l l' bs vs is bx bs' (h.keep x (fun _ _ h=>h) fun b hv=>⟨rfl,hb b (by simp[hv])⟩) (ih fun b' hx=>hb b' (by simp[hx]))
 |other v i vs is bx bs hi k ih=>exact .other v i vs is bx bs hi (ih hb)
theorem CReps.blkM{vs:List Value}{cs:List CV}{bs:List Nat}(h:CReps w com loc vs cs bs):∀ b∈bs,b<w.heap.size:=h.lt
theorem IRep.blkM{v:Value}{i:IV}{bs:List Nat}(h:IRep w com v i bs):∀ b∈bs,b<w.heap.size:=by
 have:=(IReps.cons h .nil).blk;rwa[List.append_nil]at this
theorem RRep.blkM{v:Value}{i:IV}{bs:List Nat}(h:RRep w com v i bs):∀ b∈bs,b<w.heap.size:=by
 cases h with
 |one v i bs h=>exact h.blkM
 |tup vs is bs h=>exact h.blk
end
theorem jar.frzM {P:Program} {g:FuncId} {ivs:List IV} {res:IV} {bxs:List (List CV)} (h:jar P g ivs res bxs) (hnb:res.noBox=true):jar P g ivs res.frzM bxs:=by
 intro w com vals bs hI hnd hfresh hgl;refine(h w com vals bs hI hnd hfresh hgl).mono ?_;rintro e w' ⟨v,com',rbs,bbs,he,hx,hf,hc,hk,hr,hb,hn,hm⟩;obtain⟨hn1,hn2,hn3⟩:=List.nodup_append.1 hn;have hx2:=jdS w' com' rbs;refine⟨v,comR w' com' rbs,[],bbs,he,hx.trans hx2,hf,fun b hs=>?_,fun b hlt hnb'=>?_,hr.frzM hnb fun b h=>h,hb.keepM hx2 fun b hb'=>?_,hn2,fun b hb'=>hm b (nqD.2 (.inr (by simpa using hb')))⟩
 .unfold comR;rw[if_neg (fun h=>absurd (hr.blkM b h) (by omega))];exact hc b hs
 .unfold comR;rw[if_neg (fun h=>?_)]
  .exact hk b hlt hnb'
  .rcases hm b (nqD.2 (.inl h))with h|h
   .exact hnb' h
   .omega
 .unfold comR;rw[if_neg (fun h=>hn3 b h b hb' rfl)]
theorem jga {P:Program} (hmix:P.follows .mixedOrders=true) {tab:List (FuncId×Entry)} (hT:jaf P tab) {lp:List (Nat×List Nat×List Nat)} {LO:LoopT} {g:FuncId} {fn:Func} (hf:FnAt P g fn) (h0:Nat.blt 0 fn.ntmps=true) {E:Entry}
  (h:∀ ivs res bxs,pickA (E ivs)=some (res,bxs)->(∀ b∈jau (jbe fn),jbH P (tabL tab) (OL lp) fn.ntmps (pbOf (jaH 0 ivs)) LO b)/\∃ R,evB brC P tab lp LO fn ivs=some (R,bxs)/\R.noBox=true/\R.frzM=res):jae P g E:=
 ⟨⟨_,hf⟩,fun ivs res bxs he=>by
  obtain⟨h1,R,h2,h3,rfl⟩:=h ivs res bxs he;exact(jfv hmix (jcU hT) hf h0 rfl h1 h2).frzM h3⟩
theorem jlD{s:ByteArray}{i:Int}(h:okS s i=true)(ho:lexO (SL s i)=true):i<=i1 s i:=by
 unfold i1;by_cases hlt:i<s.size
 .obtain ⟨_,e1,e2⟩:=jij h hlt;have hn:tokN (SL s i)≠0:=by
   intro e;rw[e,ho]at e1;cases e1
  rw[(e2 hn).2.2];omega
 .rw [(jex h (by omega)).2.2.2.2];exact Int.le_refl _
theorem jm9{s:ByteArray}{i:Int}(h:okS s i=true):okS s (litE s i)=true/\i<=litE s i:=by
 obtain⟨h1,h2⟩:=sg_ok (s:=s) (i:=i) (m:=false) _ h (Nat.le_refl _);rw[jhQ];unfold litF;cases hA:lexO (SL s (sgE s i false))with
 |false=>exact⟨h1,h2⟩
 |true=>
  have h3:=ja0 h1 hA;have h4:sgE s i false<=i1 s (sgE s i false):=jlD h1 hA;cases hK:(lexK (SL s (sgE s i false))==2)<;>exact⟨h3,Int.le_trans h2 h4⟩
theorem jk9{s:ByteArray}{i:Int}(h:okS s i=true):okS s (subE s i)=true/\i<=subE s i:=by
 obtain⟨h1,h2⟩:=sg_ok (s:=s) (i:=i) (m:=false) _ h (Nat.le_refl _);rw[jgS];unfold subF;cases hA:lexO (SL s (sgE s i false))with
 |false=>exact⟨h1,h2⟩
 |true=>
  have h3:=ja0 h1 hA;have h4:sgE s i false<=i1 s (sgE s i false):=jlD h1 hA;cases hK3:(lexK (SL s (sgE s i false))==3)<;>cases hK:(lexK (SL s (sgE s i false))==2)<;>exact⟨h3,Int.le_trans h2 h4⟩
theorem jmf(m:Bool)(l:List UInt8):(numT m l).size<=20:=by
 unfold numT;rw[jiL];obtain⟨n1,n2⟩:=jkK (tx l).data.toList;have f:∀ n,numIn n=true->(jak n).length<=20:=fun n h=>by
  unfold numIn at h;obtain⟨a,b⟩:=andE h;exact jeT ⟨nqI a,nqI b⟩
 cases m
 .exact f _ n1
 .exact f _ n2
theorem jjZ{s:ByteArray}{i:Int}(h:okS s i=true)(hs:s.size<=1000):(litT s i).size<=1000:=by
 obtain⟨h1,h2⟩:=sg_ok (s:=s) (i:=i) (m:=false) _ h (Nat.le_refl _);have:=tx_le h1;rw[jhG];unfold litF;cases hA:lexO (SL s (sgE s i false))with
 |false=>exact Nat.zero_le _
 |true=>
  cases hK:(lexK (SL s (sgE s i false))==2)
  .show (tx _).size<=1000;omega
  .exact Nat.le_trans (jmf _ _) (by decide)
theorem jdV(f:Nat)(s:ByteArray)(i:Int)(b:Bool):lsF (f+1) s i b=bif b then([],i,true)else
  bif sgnAt s (litE s i) sRp then([litT s i],i1 s (litE s i),litB s i)
  else bif sgnAt s (litE s i) jbf then(litT s i::(lsF f s (i1 s (litE s i)) (litB s i)).1,(lsF f s (i1 s (litE s i)) (litB s i)).2)
  else([litT s i],litE s i,true):=rfl
theorem jc6(f:Nat)(s:ByteArray)(i:Int)(b:Bool):liF (f+1) s i b=bif b then([],i,true)else
  bif sgnAt s (subE s i) jbf then((subK s i,subT s i)::(liF f s (i1 s (subE s i)) (subBd s i)).1,(liF f s (i1 s (subE s i)) (subBd s i)).2)
  else([(subK s i,subT s i)],subE s i,subBd s i):=rfl
theorem jlW(s:ByteArray)(i:Int)(b:Bool):lsL s i b=(lsF (s.size+2-i.toNat) s i b).1:=jaU _
theorem jnm(s:ByteArray)(i:Int)(b:Bool):lsE s i b=(lsF (s.size+2-i.toNat) s i b).2.1:=jaU _
theorem jiD(s:ByteArray)(i:Int)(b:Bool):lsB s i b=(lsF (s.size+2-i.toNat) s i b).2.2:=jaU _
theorem jkQ(s:ByteArray)(i:Int)(b:Bool):liL s i b=(liF (s.size+2-i.toNat) s i b).1:=jaU _
theorem jiH(s:ByteArray)(i:Int)(b:Bool):ljE s i b=(liF (s.size+2-i.toNat) s i b).2.1:=jaU _
theorem jnc(s:ByteArray)(i:Int)(b:Bool):ljB s i b=(liF (s.size+2-i.toNat) s i b).2.2:=jaU _
theorem jio{s:ByteArray}{i:Int}(h:okS s i=true):lsB s i true=true:=by
 have:=jav h;rw[jiD,show s.size+2-i.toNat=(s.size+1-i.toNat)+1 by omega,jdV];rfl
theorem jma:∀ (f:Nat) (s:ByteArray) (i:Int) (b:Bool),okS s i=true->s.size<=1000->(lsF f s i b).1.length<=f/\∀ t∈(lsF f s i b).1,t.size<=1000:=by
 intro f;induction f with
 |zero=>
  intro s i b h hs;exact⟨Nat.le_refl _,fun t ht=>by cases ht⟩
 |succ f ih=>
  intro s i b h hs;rw[jdV];have h1:=jjZ h hs;have one:∀ t∈[litT s i],t.size<=1000:=fun t ht=>by rw[List.mem_singleton.1 ht];exact h1
  cases b with
  |true=>exact⟨Nat.zero_le _,fun t ht=>by cases ht⟩
  |false=>
   cases hR:sgnAt s (litE s i) sRp with
   |true=>exact⟨Nat.succ_le_succ (Nat.zero_le _),one⟩
   |false=>
    cases hC:sgnAt s (litE s i) jbf with
    |false=>exact⟨Nat.succ_le_succ (Nat.zero_le _),one⟩
    |true=>
     obtain⟨_,_,h3,_⟩:=jaW (jm9 h).1 hC;obtain⟨e1,e2⟩:=ih s (i1 s (litE s i)) (litB s i) h3 hs;refine⟨Nat.succ_le_succ e1,fun t ht=>?_⟩;rcases List.mem_cons.1 ht with rfl|ht
     .exact h1
     .exact e2 t ht
theorem ls_sh{s:ByteArray}{i:Int}{b:Bool}(h:okS s i=true)(hs:s.size<=1000):shL (lsL s i b):=by
 rw[jlW];obtain⟨e1,e2⟩:=jma (s.size+2-i.toNat) s i b h hs;exact⟨by omega,fun t ht=>Nat.le_trans (e2 t ht) (by decide)⟩
theorem jnR:jaf prog rlb0:=⟨joH,joG,jjJ,jhc⟩
theorem jhA(s t nm:ByteArray)(g:Bool)(i:Int)(n:Nat)(l:List PV):
  LoopsTo (rdB brC prog rlb0 lp_rr LO_rr Tryz.f9 6 []) [aS t,aBx 6 (bx s i true),aB g,aS nm,aL 9 1 9 n l] (.exit 0,[aS t,aBx 6 (bx s i true),aB g,aS nm,aL 9 1 9 n l]):=.done _ _ ((jkq t s nm i true g n l).trans rfl)
theorem jmY(l:List PV):l++([]:List ByteArray).map str=l:=List.append_nil l
theorem jn6(s:ByteArray)(hs:s.size<=1000)(t nm:ByteArray)(g:Bool):∀ (f:Nat) (i:Int) (b:Bool) (n:Nat) (l:List PV),okS s i=true->s.size+2<=f+i.toNat->n<=100000+i.toNat ->
  LoopsTo (rdB brC prog rlb0 lp_rr LO_rr Tryz.f9 6 []) [aS t,aBx 6 (bx s i b),aB g,aS nm,aL 9 1 9 n l] (.exit 0,[aS t,aBx 6 (bx s (lsF f s i b).2.1 (lsF f s i b).2.2),aB g,aS nm,aL 9 1 9 (n+(lsF f s i b).1.length) (l++(lsF f s i b).1.map .str)]):=by
 intro f;induction f with
 |zero=>
  intro i b n l h hf hn;have:=jav h;omega
 |succ f ih=>
  intro i b n l h hf hn;have tree:=jkq t s nm i b g n l;have hb:=jav h;rw[jdV];cases b with
  |true=>
   rw[cond_true];show LoopsTo _ _ (_,[_,_,_,_,aL 9 1 9 (n+0) (l++([]:List ByteArray).map str)]);rw[jmY];exact jhA s t nm g i n l
  |false=>
   obtain⟨hJ,hle⟩:=jm9 h;have hJb:=jav hJ;have d1:decide (s.size<=1000)=true:=dT hs;have d2:decide (n+1<=140737488351232)=true:=dT (by omega);have d3:decide ((n+1)*16<=140737488355328)=true:=dT (by omega);have d4:beq (length [str (litT s i)]) (1*1)=true:=rfl;rw[cond_false];cases hA:lexO (SL s (litE s i))with
   |false=>
    have s1:sgnAt s (litE s i) sRp=false:=by unfold sgnAt;rw[hA];rfl
    have s2:sgnAt s (litE s i) jbf=false:=by unfold sgnAt;rw[hA];rfl
    rw[s1,s2,cond_false,cond_false];simp only[h,hJ,hA,d1,d2,d3,d4,Bool.not_false,Bool.and_true,Bool.and_false,Bool.true_and,Bool.false_and,Bool.false_or]at tree;refine .step _ _ _ (tree.trans rfl) ?_;exact jhA s t nm g _ _ _
   |true=>
    cases hR:isS (SL s (litE s i)) sRp with
    |true=>
     have s1:sgnAt s (litE s i) sRp=true:=by unfold sgnAt;rw[hA,hR];rfl
     rw[s1,cond_true];simp only[h,hJ,hA,hR,d1,d2,d3,d4,Bool.not_false,Bool.and_true,Bool.and_false,Bool.true_and,Bool.false_and,Bool.false_or]at tree;exact .done _ _ (tree.trans rfl)
    |false=>
     have s1:sgnAt s (litE s i) sRp=false:=by unfold sgnAt;rw[hA,hR];rfl
     rw[s1,cond_false];cases hC:isS (SL s (litE s i)) jbf with
     |true=>
      have s2:sgnAt s (litE s i) jbf=true:=by unfold sgnAt;rw[hA,hC];rfl
      rw[s2,cond_true];obtain⟨_,_,h3,h4,_⟩:=jaW hJ s2;have hb3:=jav h3;simp only[h,hJ,hA,hR,hC,d1,d2,d3,d4,Bool.not_false,Bool.and_true,Bool.and_false,Bool.true_and,Bool.false_and,Bool.false_or]at tree;refine .step _ _ _ (tree.trans rfl) ?_;have:=ih (i1 s (litE s i)) (litB s i) (n+1) (l++[str (litT s i)]) h3 (by omega) (by omega);dsimp only[nqH,List.map_cons];rw[show n+((lsF f s (i1 s (litE s i)) (litB s i)).1.length+1)=n+1+(lsF f s (i1 s (litE s i)) (litB s i)).1.length by omega];rw[List.append_assoc]at this;exact this
     |false=>
      have s2:sgnAt s (litE s i) jbf=false:=by unfold sgnAt;rw[hA,hC];rfl
      rw[s2,cond_false];simp only[h,hJ,hA,hR,hC,d1,d2,d3,d4,Bool.not_false,Bool.and_true,Bool.and_false,Bool.true_and,Bool.false_and,Bool.false_or]at tree;refine .step _ _ _ (tree.trans rfl) ?_;exact jhA s t nm g _ _ _
theorem jm4{s:ByteArray}{i:Int}(h:okS s i=true)(hA:lexO (SL s i)=false):(i==(s.size:Int))=false:=by
 cases he:(i==(s.size:Int))with
 |false=>rfl
 |true=>
  have:=(jex h (by rw[eq_of_beq he];exact Int.le_refl _)).2.1;rw[hA]at this;cases this
theorem jgC(s:ByteArray):rfG s=(rfO s).1:=jaU _
theorem jgw(s:ByteArray):rfN s=(rfO s).2.1:=jaU _
theorem jeB(s:ByteArray):rfL s=(rfO s).2.2.1:=jaU _
theorem jgQ(s:ByteArray):rfC s=(rfO s).2.2.2:=jaU _
theorem jiu{s:ByteArray}(h:rfF s=none)(hs:s.size<=120):rfO s=(false,nostr,[],6):=by
 unfold rfO;rw[dF (by omega),h];rfl
theorem jjR{s:ByteArray}{x:Bool×ByteArray×List ByteArray}(h:rfF s=some x)(hs:s.size<=120)(hb:subsB x.2.2=false):rfO s=(false,nostr,[],2):=by
 unfold rfO;rw[dF (by omega),h];dsimp only;rw[hb];rfl
theorem jf3{s:ByteArray}{x:Bool×ByteArray×List ByteArray}(h:rfF s=some x)(hs:s.size<=120)(hb:subsB x.2.2=true):rfO s=(x.1,x.2.1,x.2.2,0):=by
 unfold rfO;rw[dF (by omega),h];dsimp only;rw[hb];rfl
theorem fin6{s:ByteArray}(h:rfF s=none)(hs:s.size<=120):(IV.tup [cB false,cS nostr,.cv (.lst 1 9 0 [] false),cI 6]).frzM=.tup [cB (rfG s),cS (rfN s),cP (pL (rfL s)),cI (rfC s)]:=by
 rw[jgC,jgw,jeB,jgQ,jiu h hs];rfl
theorem fin2{s:ByteArray}{x:Bool×ByteArray×List ByteArray}(h:rfF s=some x)(hs:s.size<=120)(hb:subsB x.2.2=false):(IV.tup [cB false,cS nostr,.cv (.lst 1 9 0 [] false),cI 2]).frzM=.tup [cB (rfG s),cS (rfN s),cP (pL (rfL s)),cI (rfC s)]:=by
 rw[jgC,jgw,jeB,jgQ,jjR h hs hb];rfl
theorem fin0{s:ByteArray}{g:Bool}{nm:ByteArray}{l:List ByteArray}(h:rfF s=some (g,nm,l))(hs:s.size<=120)(hb:subsB l=true):(IV.tup [cB g,cS nm,.cv (.lst 1 9 l.length (l.map .str) false),cI 0]).frzM=.tup [cB (rfG s),cS (rfN s),cP (pL (rfL s)),cI (rfC s)]:=by
 rw[jgC,jgw,jeB,jgQ,jf3 h hs hb];rfl
set_option maxHeartbeats 1000000 in
theorem joJ{s:ByteArray}(hs:s.size<=120):∃ R,q_rr brC s=some (R,[])/\R.noBox=true/\R.frzM=.tup [cB (rfG s),cS (rfN s),cP (pL (rfL s)),cI (rfC s)]:=by
 have tree:=jnW s;revert tree;try delta zzad1;intro tree
 revert tree;try delta zzad0;intro tree
 have hO:okS s 0=true:=jeD (k:=0) (Nat.zero_le _) (by omega);have hs3:s.size<=1000:=by omega
 have hsd:decide (s.size<=1000)=true:=dT hs3;cases hA:lexO (SL s 0)with
 |false=>
  simp only[hO,hsd,hA,Nat.beq_refl,jax,bne,Bool.and_true,Bool.and_false,Bool.true_and,Bool.false_and,Bool.not_true,Bool.not_false,Bool.false_or,Bool.true_or]at tree;exact⟨_,tree.trans rfl,rfl,fin6 (by simp only[hO,hsd,hA,rfF,i0,i1,sgnAt,Bool.and_true,Bool.and_false,Bool.true_and,Bool.false_and,Bool.not_true,Bool.not_false,cond_true,cond_false]) hs⟩
 |true=>
  cases hS:isS (SL s 0) caret with
  |true=>
   have hO1:=ja0 hO hA;cases hA1:lexO (SL s (lexE (SL s 0) 0))with
   |false=>
    simp only[hO,hsd,hA,hS,hO1,hA1,Nat.beq_refl,jax,bne,Bool.and_true,Bool.and_false,Bool.true_and,Bool.false_and,Bool.not_true,Bool.not_false,Bool.false_or,Bool.true_or]at tree;exact⟨_,tree.trans rfl,rfl,fin6 (by simp only[hO,hsd,hA,hS,hO1,hA1,rfF,i0,i1,sgnAt,Bool.and_true,Bool.and_false,Bool.true_and,Bool.false_and,Bool.not_true,Bool.not_false,cond_true,cond_false]) hs⟩
   |true=>
    cases hN:nmS (SL s (lexE (SL s 0) 0))with
    |false=>
     cases hP:isS (SL s (lexE (SL s 0) 0)) sLp with
     |false=>
      simp only[hO,hsd,hA,hS,hO1,hA1,hN,hP,Nat.beq_refl,jax,bne,Bool.and_true,Bool.and_false,Bool.true_and,Bool.false_and,Bool.not_true,Bool.not_false,Bool.false_or,Bool.true_or]at tree;exact⟨_,tree.trans rfl,rfl,fin6 (by simp only[hO,hsd,hA,hS,hO1,hA1,hN,hP,rfF,i0,i1,sgnAt,Bool.and_true,Bool.and_false,Bool.true_and,Bool.false_and,Bool.not_true,Bool.not_false,cond_true,cond_false]) hs⟩
     |true=>
      have hOb:=ja0 hO1 hA1;have hLb:=jio hOb;simp only[hO,hsd,hA,hS,hO1,hA1,hN,hP,hOb,hLb,Nat.beq_refl,jax,bne,Bool.and_true,Bool.and_false,Bool.true_and,Bool.false_and,Bool.not_true,Bool.not_false,Bool.false_or,Bool.true_or]at tree;exact⟨_,tree.trans rfl,rfl,fin6 (by simp only[hO,hsd,hA,hS,hO1,hA1,hN,hP,hOb,hLb,rfF,i0,i1,sgnAt,Bool.and_true,Bool.and_false,Bool.true_and,Bool.false_and,Bool.not_true,Bool.not_false,cond_true,cond_false]) hs⟩
    |true=>
     have hO2:=ja0 hO1 hA1;cases hA2:lexO (SL s (lexE (SL s (lexE (SL s 0) 0)) (lexE (SL s 0) 0)))with
     |false=>
      have hne:=jm4 hO2 hA2;simp only[hO,hsd,hA,hS,hO1,hA1,hN,hO2,hA2,hne,Nat.beq_refl,jax,bne,Bool.and_true,Bool.and_false,Bool.true_and,Bool.false_and,Bool.not_true,Bool.not_false,Bool.false_or,Bool.true_or]at tree;exact⟨_,tree.trans rfl,rfl,fin6 (by simp only[hO,hsd,hA,hS,hO1,hA1,hN,hO2,hA2,hne,rfF,i0,i1,sgnAt,Bool.and_true,Bool.and_false,Bool.true_and,Bool.false_and,Bool.not_true,Bool.not_false,cond_true,cond_false]) hs⟩
     |true=>
      cases hP:isS (SL s (lexE (SL s (lexE (SL s 0) 0)) (lexE (SL s 0) 0))) sLp with
      |false=>
       cases hE:((lexE (SL s (lexE (SL s 0) 0)) (lexE (SL s 0) 0))==(s.size:Int))with
       |false=>
        simp only[hO,hsd,hA,hS,hO1,hA1,hN,hO2,hA2,hP,hE,Nat.beq_refl,jax,bne,Bool.and_true,Bool.and_false,Bool.true_and,Bool.false_and,Bool.not_true,Bool.not_false,Bool.false_or,Bool.true_or]at tree;exact⟨_,tree.trans rfl,rfl,fin6 (by simp only[hO,hsd,hA,hS,hO1,hA1,hN,hO2,hA2,hP,hE,rfF,i0,i1,sgnAt,Bool.and_true,Bool.and_false,Bool.true_and,Bool.false_and,Bool.not_true,Bool.not_false,cond_true,cond_false]) hs⟩
       |true=>
        have n1:isE pL shL (sl 0 [])=true:=jbx (xs:=[]) ⟨by decide,fun t ht=>by cases ht⟩;have n2:asE pL (sl 0 [])=[]:=jaR [];have n3:subsB []=true:=rfl;simp only[hO,hsd,hA,hS,hO1,hA1,hN,hO2,hA2,hP,hE,isL,asL,n1,n2,n3,Nat.beq_refl,jax,bne,Bool.and_true,Bool.and_false,Bool.true_and,Bool.false_and,Bool.not_true,Bool.not_false,Bool.false_or,Bool.true_or]at tree;exact⟨_,tree.trans rfl,rfl,fin0 (g:=true) (nm:=tx (SL s (lexE (SL s 0) 0))) (l:=[]) (by simp only[hO,hsd,hA,hS,hO1,hA1,hN,hO2,hA2,hP,hE,rfF,i0,i1,sgnAt,Bool.and_true,Bool.and_false,Bool.true_and,Bool.false_and,Bool.not_true,Bool.not_false,cond_true,cond_false]) hs rfl⟩
      |true=>
       have hO3:=ja0 hO2 hA2;cases hB:lsB s (lexE (SL s (lexE (SL s (lexE (SL s 0) 0)) (lexE (SL s 0) 0))) (lexE (SL s (lexE (SL s 0) 0)) (lexE (SL s 0) 0))) false with
       |true=>
        simp only[hO,hsd,hA,hS,hO1,hA1,hN,hO2,hA2,hP,hO3,hB,Nat.beq_refl,jax,bne,Bool.and_true,Bool.and_false,Bool.true_and,Bool.false_and,Bool.not_true,Bool.not_false,Bool.false_or,Bool.true_or]at tree;exact⟨_,tree.trans rfl,rfl,fin6 (by simp only[hO,hsd,hA,hS,hO1,hA1,hN,hO2,hA2,hP,hO3,hB,rfF,i0,i1,sgnAt,Bool.and_true,Bool.and_false,Bool.true_and,Bool.false_and,Bool.not_true,Bool.not_false,cond_true,cond_false]) hs⟩
       |false=>
        cases hE:(lsE s (lexE (SL s (lexE (SL s (lexE (SL s 0) 0)) (lexE (SL s 0) 0))) (lexE (SL s (lexE (SL s 0) 0)) (lexE (SL s 0) 0))) false==(s.size:Int))with
        |false=>
         simp only[hO,hsd,hA,hS,hO1,hA1,hN,hO2,hA2,hP,hO3,hB,hE,Nat.beq_refl,jax,bne,Bool.and_true,Bool.and_false,Bool.true_and,Bool.false_and,Bool.not_true,Bool.not_false,Bool.false_or,Bool.true_or]at tree;exact⟨_,tree.trans rfl,rfl,fin6 (by simp only[hO,hsd,hA,hS,hO1,hA1,hN,hO2,hA2,hP,hO3,hB,hE,rfF,i0,i1,sgnAt,Bool.and_true,Bool.and_false,Bool.true_and,Bool.false_and,Bool.not_true,Bool.not_false,cond_true,cond_false]) hs⟩
        |true=>
         have n1:=jbx (ls_sh (b:=false) hO3 hs3);have n2:=jaR (lsL s (lexE (SL s (lexE (SL s (lexE (SL s 0) 0)) (lexE (SL s 0) 0))) (lexE (SL s (lexE (SL s 0) 0)) (lexE (SL s 0) 0))) false);cases hU:subsB (lsL s (lexE (SL s (lexE (SL s (lexE (SL s 0) 0)) (lexE (SL s 0) 0))) (lexE (SL s (lexE (SL s 0) 0)) (lexE (SL s 0) 0))) false)with
         |false=>
          simp only[hO,hsd,hA,hS,hO1,hA1,hN,hO2,hA2,hP,hO3,hB,hE,isL,asL,n1,n2,hU,Nat.beq_refl,jax,bne,Bool.and_true,Bool.and_false,Bool.true_and,Bool.false_and,Bool.not_true,Bool.not_false,Bool.false_or,Bool.true_or]at tree;exact⟨_,tree.trans rfl,rfl,fin2 (x:=(true,tx (SL s (lexE (SL s 0) 0)),lsL s (lexE (SL s (lexE (SL s (lexE (SL s 0) 0)) (lexE (SL s 0) 0))) (lexE (SL s (lexE (SL s 0) 0)) (lexE (SL s 0) 0))) false)) (by simp only[hO,hsd,hA,hS,hO1,hA1,hN,hO2,hA2,hP,hO3,hB,hE,rfF,i0,i1,sgnAt,Bool.and_true,Bool.and_false,Bool.true_and,Bool.false_and,Bool.not_true,Bool.not_false,cond_true,cond_false]) hs hU⟩
         |true=>
          simp only[hO,hsd,hA,hS,hO1,hA1,hN,hO2,hA2,hP,hO3,hB,hE,isL,asL,n1,n2,hU,Nat.beq_refl,jax,bne,Bool.and_true,Bool.and_false,Bool.true_and,Bool.false_and,Bool.not_true,Bool.not_false,Bool.false_or,Bool.true_or]at tree;exact⟨_,tree.trans rfl,rfl,fin0 (g:=true) (nm:=tx (SL s (lexE (SL s 0) 0))) (l:=lsL s (lexE (SL s (lexE (SL s (lexE (SL s 0) 0)) (lexE (SL s 0) 0))) (lexE (SL s (lexE (SL s 0) 0)) (lexE (SL s 0) 0))) false) (by simp only[hO,hsd,hA,hS,hO1,hA1,hN,hO2,hA2,hP,hO3,hB,hE,rfF,i0,i1,sgnAt,Bool.and_true,Bool.and_false,Bool.true_and,Bool.false_and,Bool.not_true,Bool.not_false,cond_true,cond_false]) hs hU⟩
  |false=>
   cases hN:nmS (SL s (0))with
   |false=>
    cases hP:isS (SL s (0)) sLp with
    |false=>
     simp only[hO,hsd,hA,hS,hN,hP,Nat.beq_refl,jax,bne,Bool.and_true,Bool.and_false,Bool.true_and,Bool.false_and,Bool.not_true,Bool.not_false,Bool.false_or,Bool.true_or]at tree;exact⟨_,tree.trans rfl,rfl,fin6 (by simp only[hO,hsd,hA,hS,hN,hP,rfF,i0,i1,sgnAt,Bool.and_true,Bool.and_false,Bool.true_and,Bool.false_and,Bool.not_true,Bool.not_false,cond_true,cond_false]) hs⟩
    |true=>
     have hOb:=ja0 hO hA;have hLb:=jio hOb;simp only[hO,hsd,hA,hS,hN,hP,hOb,hLb,Nat.beq_refl,jax,bne,Bool.and_true,Bool.and_false,Bool.true_and,Bool.false_and,Bool.not_true,Bool.not_false,Bool.false_or,Bool.true_or]at tree;exact⟨_,tree.trans rfl,rfl,fin6 (by simp only[hO,hsd,hA,hS,hN,hP,hOb,hLb,rfF,i0,i1,sgnAt,Bool.and_true,Bool.and_false,Bool.true_and,Bool.false_and,Bool.not_true,Bool.not_false,cond_true,cond_false]) hs⟩
   |true=>
    have hO2:=ja0 hO hA;cases hA2:lexO (SL s (lexE (SL s (0)) (0)))with
    |false=>
     have hne:=jm4 hO2 hA2;simp only[hO,hsd,hA,hS,hN,hO2,hA2,hne,Nat.beq_refl,jax,bne,Bool.and_true,Bool.and_false,Bool.true_and,Bool.false_and,Bool.not_true,Bool.not_false,Bool.false_or,Bool.true_or]at tree;exact⟨_,tree.trans rfl,rfl,fin6 (by simp only[hO,hsd,hA,hS,hN,hO2,hA2,hne,rfF,i0,i1,sgnAt,Bool.and_true,Bool.and_false,Bool.true_and,Bool.false_and,Bool.not_true,Bool.not_false,cond_true,cond_false]) hs⟩
    |true=>
     cases hP:isS (SL s (lexE (SL s (0)) (0))) sLp with
     |false=>
      cases hE:((lexE (SL s (0)) (0))==(s.size:Int))with
      |false=>
       simp only[hO,hsd,hA,hS,hN,hO2,hA2,hP,hE,Nat.beq_refl,jax,bne,Bool.and_true,Bool.and_false,Bool.true_and,Bool.false_and,Bool.not_true,Bool.not_false,Bool.false_or,Bool.true_or]at tree;exact⟨_,tree.trans rfl,rfl,fin6 (by simp only[hO,hsd,hA,hS,hN,hO2,hA2,hP,hE,rfF,i0,i1,sgnAt,Bool.and_true,Bool.and_false,Bool.true_and,Bool.false_and,Bool.not_true,Bool.not_false,cond_true,cond_false]) hs⟩
      |true=>
       have n1:isE pL shL (sl 0 [])=true:=jbx (xs:=[]) ⟨by decide,fun t ht=>by cases ht⟩;have n2:asE pL (sl 0 [])=[]:=jaR [];have n3:subsB []=true:=rfl;simp only[hO,hsd,hA,hS,hN,hO2,hA2,hP,hE,isL,asL,n1,n2,n3,Nat.beq_refl,jax,bne,Bool.and_true,Bool.and_false,Bool.true_and,Bool.false_and,Bool.not_true,Bool.not_false,Bool.false_or,Bool.true_or]at tree;exact⟨_,tree.trans rfl,rfl,fin0 (g:=false) (nm:=tx (SL s (0))) (l:=[]) (by simp only[hO,hsd,hA,hS,hN,hO2,hA2,hP,hE,rfF,i0,i1,sgnAt,Bool.and_true,Bool.and_false,Bool.true_and,Bool.false_and,Bool.not_true,Bool.not_false,cond_true,cond_false]) hs rfl⟩
     |true=>
      have hO3:=ja0 hO2 hA2;cases hB:lsB s (lexE (SL s (lexE (SL s (0)) (0))) (lexE (SL s (0)) (0))) false with
      |true=>
       simp only[hO,hsd,hA,hS,hN,hO2,hA2,hP,hO3,hB,Nat.beq_refl,jax,bne,Bool.and_true,Bool.and_false,Bool.true_and,Bool.false_and,Bool.not_true,Bool.not_false,Bool.false_or,Bool.true_or]at tree;exact⟨_,tree.trans rfl,rfl,fin6 (by simp only[hO,hsd,hA,hS,hN,hO2,hA2,hP,hO3,hB,rfF,i0,i1,sgnAt,Bool.and_true,Bool.and_false,Bool.true_and,Bool.false_and,Bool.not_true,Bool.not_false,cond_true,cond_false]) hs⟩
      |false=>
       cases hE:(lsE s (lexE (SL s (lexE (SL s (0)) (0))) (lexE (SL s (0)) (0))) false==(s.size:Int))with
       |false=>
        simp only[hO,hsd,hA,hS,hN,hO2,hA2,hP,hO3,hB,hE,Nat.beq_refl,jax,bne,Bool.and_true,Bool.and_false,Bool.true_and,Bool.false_and,Bool.not_true,Bool.not_false,Bool.false_or,Bool.true_or]at tree;exact⟨_,tree.trans rfl,rfl,fin6 (by simp only[hO,hsd,hA,hS,hN,hO2,hA2,hP,hO3,hB,hE,rfF,i0,i1,sgnAt,Bool.and_true,Bool.and_false,Bool.true_and,Bool.false_and,Bool.not_true,Bool.not_false,cond_true,cond_false]) hs⟩
       |true=>
        have n1:=jbx (ls_sh (b:=false) hO3 hs3);have n2:=jaR (lsL s (lexE (SL s (lexE (SL s (0)) (0))) (lexE (SL s (0)) (0))) false);cases hU:subsB (lsL s (lexE (SL s (lexE (SL s (0)) (0))) (lexE (SL s (0)) (0))) false)with
        |false=>
         simp only[hO,hsd,hA,hS,hN,hO2,hA2,hP,hO3,hB,hE,isL,asL,n1,n2,hU,Nat.beq_refl,jax,bne,Bool.and_true,Bool.and_false,Bool.true_and,Bool.false_and,Bool.not_true,Bool.not_false,Bool.false_or,Bool.true_or]at tree;exact⟨_,tree.trans rfl,rfl,fin2 (x:=(false,tx (SL s (0)),lsL s (lexE (SL s (lexE (SL s (0)) (0))) (lexE (SL s (0)) (0))) false)) (by simp only[hO,hsd,hA,hS,hN,hO2,hA2,hP,hO3,hB,hE,rfF,i0,i1,sgnAt,Bool.and_true,Bool.and_false,Bool.true_and,Bool.false_and,Bool.not_true,Bool.not_false,cond_true,cond_false]) hs hU⟩
        |true=>
         simp only[hO,hsd,hA,hS,hN,hO2,hA2,hP,hO3,hB,hE,isL,asL,n1,n2,hU,Nat.beq_refl,jax,bne,Bool.and_true,Bool.and_false,Bool.true_and,Bool.false_and,Bool.not_true,Bool.not_false,Bool.false_or,Bool.true_or]at tree;exact⟨_,tree.trans rfl,rfl,fin0 (g:=false) (nm:=tx (SL s (0))) (l:=lsL s (lexE (SL s (lexE (SL s (0)) (0))) (lexE (SL s (0)) (0))) false) (by simp only[hO,hsd,hA,hS,hN,hO2,hA2,hP,hO3,hB,hE,rfF,i0,i1,sgnAt,Bool.and_true,Bool.and_false,Bool.true_and,Bool.false_and,Bool.not_true,Bool.not_false,cond_true,cond_false]) hs hU⟩
theorem ok_rr:jae prog 9 E_rr:=jga mix jnR (lp:=lp_rr) (LO:=LO_rr) ⟨Tryz.func9,by kernel_rfl,by kernel_rfl⟩ (by kernel_rfl) fun ivs res bxs h=>by
 unfold E_rr at h;split at h
 .rename_i s;obtain⟨hc,he⟩:=pick1 h;cases he;refine⟨jaP 6 (by kernel_rfl) (by kernel_rfl) (by kernel_rfl) ?_,?_⟩
  .intro ls e ls' hl;unfold LO_rr at hl;split at hl
   .rename_i t x s i b g nm y e n l;obtain⟨hc,he⟩:=pick1 hl;cases he;obtain⟨⟨⟨⟨⟨⟨k0,k1⟩,k2⟩,k3⟩,k4⟩,k5⟩,k6⟩:=andE6 hc;obtain rfl:=nqB k2;obtain rfl:=nqB k3;obtain rfl:=nqB k4;obtain rfl:=nqB k5;obtain rfl:=jdW k6;have hb:=jav k0;have:=jn6 s (nqI k1) t nm g (s.size+2-i.toNat) i b 0 [] k0 (by omega) (by omega);rw[Nat.zero_add,List.nil_append,<- jnm,<- jiD,<- jlW]at this;exact this
   .cases hl
  .obtain ⟨R,h1,h2,h3⟩:=joJ (nqI hc);exact⟨R,h1,h2,h3⟩
 .cases h
theorem joj:jae prog 4 E_sRef:=jga mix (tab:=[(9,E_rr)]) ⟨ok_rr,trivial⟩ (lp:=[]) (LO:=LO0) ⟨Tryz.func4,by kernel_rfl,by kernel_rfl⟩ (by kernel_rfl) fun ivs res bxs h=>by
 unfold E_sRef at h;split at h
 .rename_i s;obtain⟨hc,he⟩:=pick1 h;cases he;have hs:=nqI hc;refine⟨jaC (by kernel_rfl),?_⟩;have tree:=jlU s;by_cases h1:(s.size:Int)>120
  .rw [dT h1]at tree;refine⟨_,tree.trans rfl,rfl,?_⟩;have e:rfO s=(false,nostr,[],4):=by
    unfold rfO;rw[dT h1];rfl
   rw[jgC,jgw,jeB,jgQ,e];rfl
  .rw [dF h1,dT (show s.size<=120 by omega)]at tree;exact⟨_,tree.trans rfl,rfl,rfl⟩
 .cases h
theorem jn3:jaf prog rlj0:=⟨jpq,jlA⟩
theorem jcz(l:List (Int×ByteArray))(x:Int×ByteArray):encEx (x::l)=[.int .i64 x.1,.str x.2,.sl 0 []]++encEx l:=rfl
theorem joe(s:ByteArray)(hs:s.size<=1000)(m:Int):∀ (f:Nat) (i:Int) (b:Bool) (n:Nat) (l:List PV),okS s i=true->s.size+2<=f+i.toNat->n<=100000+i.toNat ->
  LoopsTo (rdB brC prog rlj0 lp_li LO_li Tryz.f22 3 [0]) [aB1 (bx s i b),aI m,(.bc 23 0,none),aL 7 3 48 n l] (.exit 0,[aB1 (bx s (liF f s i b).2.1 (liF f s i b).2.2),aI m,aL 7 3 48 (n+(liF f s i b).1.length) (l++encEx (liF f s i b).1)]):=by
 intro f;induction f with
 |zero=>
  intro i b n l h hf hn;have:=jav h;omega
 |succ f ih=>
  intro i b n l h hf hn;have tree:=jnH s i m b n l;have hb:=jav h;rw[jc6];cases b with
  |true=>
   rw[cond_true];show LoopsTo _ _ (_,[_,_,aL 7 3 48 n (l++[])]);rw[List.append_nil];exact .done _ _ (tree.trans rfl)
  |false=>
   obtain⟨hJ,hle⟩:=jk9 h;have hJb:=jav hJ;have hI:okI s i=true:=jc1 h hs;have hJI:okI s (subE s i)=true:=jc1 hJ hs;have d2:decide (n+1<=140737488351232)=true:=dT (by omega);have d3:decide ((n+1)*48<=140737488355328)=true:=dT (by omega);have d4:beq (length [int IntKind.i64 (subK s i),str (subT s i),sl 0 []]) (1*3)=true:=rfl;rw[cond_false];cases hC:sgnAt s (subE s i) jbf with
   |false=>
    rw[cond_false];unfold sgnAt at hC;simp only[hI,hJI,hC,d2,d3,d4,Bool.not_false,Bool.and_true,Bool.and_false,Bool.true_and,Bool.false_and,Bool.false_or]at tree;exact .done _ _ (tree.trans rfl)
   |true=>
    rw[cond_true];obtain⟨_,_,h3,h4,_⟩:=jaW hJ hC;have hb3:=jav h3;unfold sgnAt at hC;simp only[hI,hJI,hC,d2,d3,d4,Bool.not_false,Bool.and_true,Bool.and_false,Bool.true_and,Bool.false_and,Bool.false_or]at tree;refine .step _ _ _ (tree.trans rfl) ?_;have:=ih (i1 s (subE s i)) (subBd s i) (n+1) (l++[int IntKind.i64 (subK s i),str (subT s i),sl 0 []]) h3 (by omega) (by omega);dsimp only[nqH];rw[jcz,show n+((liF f s (i1 s (subE s i)) (subBd s i)).1.length+1)=n+1+(liF f s (i1 s (subE s i)) (subBd s i)).1.length by omega];rw[List.append_assoc]at this;exact this
theorem jnv:∀ (f:Nat) (s:ByteArray) (i:Int) (b:Bool),okS s i=true->okS s (liF f s i b).2.1=true/\i<=(liF f s i b).2.1:=by
 intro f;induction f with
 |zero=>
  intro s i b h;exact⟨h,Int.le_refl _⟩
 |succ f ih=>
  intro s i b h;rw[jc6];cases b with
  |true=>exact⟨h,Int.le_refl _⟩
  |false=>
   obtain⟨h1,h2⟩:=jk9 h;cases hC:sgnAt s (subE s i) jbf with
   |false=>exact⟨h1,h2⟩
   |true=>
    obtain⟨_,_,h3,h4,_⟩:=jaW h1 hC;obtain⟨e1,e2⟩:=ih s (i1 s (subE s i)) (subBd s i) h3;exact⟨e1,show i<=(liF f s (i1 s (subE s i)) (subBd s i)).2.1 by omega⟩
theorem lj_ok{s:ByteArray}{i:Int}{b:Bool}(h:okS s i=true):okS s (ljE s i b)=true:=by
 rw[jiH];exact(jnv _ s i b h).1
theorem jnf(s:ByteArray)(i:Int):liE s i=(bif sgnAt s (ljE s i false) sRp then i1 s (ljE s i false)else ljE s i false):=jaU _
theorem jne(s:ByteArray)(i:Int):liB s i=((bif sgnAt s (ljE s i false) sRp then ljB s i false else true)||decide (((liL s i false).length:Int)>120)):=jaU _
theorem ok_li:jfz prog (vId 22 23) E_li:=jkT mix jn3 (lp:=lp_li) (LO:=LO_li) (by kernel_rfl) ⟨Tryz.func22,by kernel_rfl,by kernel_rfl⟩ (by kernel_rfl) fun ivs res bxs h=>by
 unfold E_li at h;split at h
 .rename_i s i b m;obtain⟨hc,he⟩:=pick1 h;cases he;obtain⟨⟨⟨k0,k1⟩,k2⟩,k3⟩:=andE3 hc;obtain rfl:=eq_of_beq k3;cases b with
  |true=>cases k0
  |false=>
  refine⟨_,_,rfl,jaP 3 (by kernel_rfl) (by kernel_rfl) (by kernel_rfl) ?_,?_⟩
  .intro ls e ls' hl;unfold LO_li at hl;split at hl
   .rename_i x s i b m f z y e n l;obtain⟨hc,he⟩:=pick1 hl;cases he;obtain⟨⟨⟨⟨⟨⟨⟨k0,k1⟩,k2⟩,k3⟩,k4⟩,k5⟩,k6⟩,k7⟩:=andE7 hc;obtain rfl:=nqB k1;obtain rfl:=nqB k2;obtain rfl:=nqB k3;obtain rfl:=nqB k4;obtain rfl:=nqB k5;obtain rfl:=nqB k6;obtain rfl:=jdW k7;obtain⟨hO,hs⟩:=jbg k0;have hb:=jav hO;have:=joe s hs m (s.size+2-i.toNat) i b 0 [] hO (by omega) (by omega);rw[Nat.zero_add,List.nil_append,<- jiH,<- jnc,<- jkQ]at this;exact this
   .cases hl
  .have tree:=joo s i;obtain⟨hO,hs⟩:=jbg k1;obtain⟨_,_,h3,_⟩:=jaW hO k2;have h3I:okI s (i1 s i)=true:=jc1 h3 hs;have hJI:okI s (ljE s (i1 s i) false)=true:=jc1 (lj_ok h3) hs;rw[jnf,jne];unfold sgnAt at k2 ⊢;cases hR:(lexO (SL s (ljE s (i1 s i) false))&&isS (SL s (ljE s (i1 s i) false)) sRp)with
   |false=>
    simp only[k1,k2,h3I,hJI,hR,Nat.beq_refl,jax,Bool.and_true,Bool.and_false,Bool.true_and]at tree;exact tree.trans rfl
   |true=>cases hB:ljB s (i1 s i) false<;>simp only[k1,k2,h3I,hJI,hR,hB,Nat.beq_refl,jax,Bool.and_true,Bool.and_false,Bool.true_and]at tree<;>exact tree.trans rfl
 .cases h
abbrev ExL:=List (Int×ByteArray)
abbrev pEx(l:ExL):PV:=.sl l.length (encEx l)
def shEx(l:ExL):Prop:=l.length<=100000
abbrev isEx(p:PV):Bool:=isE pEx shEx p
abbrev asEx(p:PV):ExL:=asE pEx p
def exT(l:ExL):List ByteArray:=l.map (·.2)
def rmb0:List (FuncId×Entry):=(vId 22 23,E_li)::jab3
abbrev lp_nd:List (Nat×List Nat×List Nat):=[(4,[0,2,3,23,24,25],[0,2,3]),(1000000,[34],[30,37])]
def LO_nd:LoopT:=fun _ ls=>match ls with
 |[(.ptr x 0,some (.box [.pv (.str s),.pv (.int .i64 i),.pv (.bool b)])),(.ptr y 0,some (.box [.pv (.bool a1),.pv (.str a2),.pv .nils])),(.ptr z 0,some (.box [.pv (.bool g),.pv (.str nm),.pv .nils])),(.own u,some (.lst 3 e n l false)),(.pv (.int .i64 m),none),(.pv (.int .i64 k),none)]=>
  [(beq x 0&&beq y 8192&&beq z 12288&&beq u 94208&&beq e 48&&isEx (.sl n l)&&(m==(n:Int))&&(k==0)&&decide (1<=n),.exit 0,
   [aB1 (bx s i b),aBx 2 [.pv (.bool a1),.pv (.str a2),.pv .nils],aBx 3 [.pv (.bool g),.pv (.str nm),.lst 1 9 (exT (asEx (.sl n l))).length ((exT (asEx (.sl n l))).map .str) true]])]
 |_=>[]
def r_nd0(br:Br)(s:ByteArray)(i:Int)(b a1 g:Bool)(a2 nm:ByteArray)(l:ExL)(k:Int):=rdB br prog rmb0 lp_nd LO_nd Tryz.f11 4 [0] [aB1 (bx s i b),aBx 2 [.pv (.bool a1),.pv (.str a2),.pv .nils],aBx 3 [.pv (.bool g),.pv (.str nm),.pv .nils],aL 23 3 48 l.length (encEx l),aI l.length,aI k]
def r_ndL(br:Br)(s:ByteArray)(i:Int)(b a1 g:Bool)(a2 nm:ByteArray)(n:Nat)(q:List PV)(l:ExL)(k:Int):=rdB br prog rmb0 lp_nd LO_nd Tryz.f11 4 [0] [aB1 (bx s i b),aBx 2 [.pv (.bool a1),.pv (.str a2),.pv .nils],aBx 3 [.pv (.bool g),.pv (.str nm),.lst 1 9 n q true],aL 23 3 48 l.length (encEx l),aI l.length,aI k]
def q_nd(br:Br)(s:ByteArray):=evB br prog rmb0 lp_nd LO_nd Tryz.f11 [.box 0 (bx s 0 false)]
def nmOk(s:ByteArray):Bool:=lexO (SL s (i0 s))&&nmS (SL s (i0 s))
def nmP(s:ByteArray):Bool:=sgnAt s (i1 s (i0 s)) sLp
def nmJ(s:ByteArray):Int:=i1 s (i1 s (i0 s))
def ndT(s:ByteArray):List ByteArray:=hid (exT (liL s (nmJ s) false))
def ndE(s:ByteArray):Int:=liE s (nmJ s)
def ndB(s:ByteArray):Bool:=liB s (nmJ s)
def nmG(s:ByteArray):Bool:=sgnAt s 0 caret
def nmN(s:ByteArray):ByteArray:=tx (SL s (i0 s))
def nm1(s:ByteArray):Int:=i1 s (i0 s)
def nmX(s:ByteArray):Int:=bif lexO (SL s (i0 s))then i1 s (i0 s)else i0 s
def E_nd:Entry:=fun ivs=>match ivs with
 |[.box 0 [.pv (.str s),.pv (.int .i64 i),.pv (.bool b)]]=>
  [(decide (s.size<=120)&&(i==0)&&!b&&nmOk s&&nmP s,.agg [.pv (.bool (nmG s)),.pv (.str (nmN s)),.lst 1 9 (ndT s).length ((ndT s).map .str) true],[bx s (ndE s) (ndB s)]),
   (decide (s.size<=120)&&(i==0)&&!b&&nmOk s,.agg [.pv (.bool (nmG s)),.pv (.str (nmN s)),.pv .nils],[bx s (nm1 s) false]),
   (decide (s.size<=120)&&(i==0)&&!b,.agg [.pv (.bool (nmG s)),.pv (.str nostr),.pv .nils],[bx s (nmX s) true])]
 |_=>[]
def rmb1:List (FuncId×Entry):=(11,E_nd)::[]
def q_whn(br:Br)(s:ByteArray):=evB br prog rmb1 [(1000000,[],[33])] LO0 Tryz.f10 [cS s,.cv (.pv (.clo 11 []))]
def whL(s:ByteArray):Bool:=nmOk s&&nmP s&&!ndB s&&(ndE s==(s.size:Int))
def whN(s:ByteArray):Bool:=nmOk s&&!nmP s&&(nm1 s==(s.size:Int))
def E_whn:Entry:=fun ivs=>match ivs with
 |[.cv (.pv (.str s)),.cv (.pv (.clo f []))]=>
  [(beq f 11&&decide (s.size<=1048576)&&decide ((s.size:Int)>120),.tup [.agg [.pv (.bool false),.pv (.str nostr),.pv .nils],cI 4],[]),
   (beq f 11&&decide (s.size<=120)&&whL s,.tup [.agg [.pv (.bool (nmG s)),.pv (.str (nmN s)),.lst 1 9 (ndT s).length ((ndT s).map .str) true],cI 0],[]),
   (beq f 11&&decide (s.size<=120)&&whN s,.tup [.agg [.pv (.bool (nmG s)),.pv (.str (nmN s)),.pv .nils],cI 0],[]),
   (beq f 11&&decide (s.size<=120),.tup [.agg [.pv (.bool false),.pv (.str nostr),.pv .nils],cI 6],[])]
 |_=>[]
def rmb2:List (FuncId×Entry):=(10,E_whn)::(12,E_ISubsOk)::[]
def jm7(br:Br)(s:ByteArray):=evB br prog rmb2 [(1000000,[],[19])] LO0 Tryz.f5 [cS s]
def irL(s:ByteArray):Bool:=decide (s.size<=120)&&whL s&&subsB (ndT s)
def E_iRfL:Entry:=fun ivs=>match ivs with
 |[.cv (.pv (.str s))]=>[(decide (s.size<=1048576)&&irL s,.tup [cB (rfG s),cS (rfN s),.cv (.lst 1 9 (rfL s).length ((rfL s).map .str) true),cI (rfC s)],[])]
 |_=>[]
def E_iRfN:Entry:=fun ivs=>match ivs with
 |[.cv (.pv (.str s))]=>[(decide (s.size<=1048576)&&!irL s,.tup [cB (rfG s),cS (rfN s),.cv (.pv .nils),cI (rfC s)],[])]
 |_=>[]
def rml (I:Entry):List (FuncId×Entry):=(4,E_sRef)::(5,I)::(6,E_eqSt)::(7,E_mkS2)::[(8,E_hdS)]
def jm8(br:Br)(s:ByteArray):=evB br prog (rml E_iRfL) [(1000001,[1600880],[])] LO0 Tryz.f3 [cS s]
def jm6(br:Br)(s:ByteArray):=evB br prog (rml E_iRfN) [] LO0 Tryz.f3 [cS s]
theorem jhZ(s:ByteArray)(i:Int)(b:Bool)(a1:Bool)(g:Bool)(a2:ByteArray)(nm:ByteArray)(n:Nat)(q:List PV)(l:ExL)(k:Int):r_ndL brC s i b a1 g a2 nm n q l k=brC (decide (k<(↑ l.length:Int))) (brC (decide (0<=k)&&decide (k<(↑ l.length:Int))) (brC (Nat.ble 3 (length (drop (toNat k*3) (encEx l)))&&(PV.isInt .i64 (headD (drop (toNat k*3) (encEx l)) nilp)&&(isStr (headD (tail (drop (toNat k*3) (encEx l))) nilp)&&(isSl (headD (tail (tail (drop (toNat k*3) (encEx l)))) nilp)&&true&&true)&&true)&&true)&&true) (brC (beq (length [str (asStr (headD (tail (drop (toNat k*3) (encEx l))) nilp))]) (1*1)&&(decide (n+1<=140737488351232)&&decide ((n+1)*16<=140737488355328))) (some (.inl [(.ptr 0 0,some (.box [.pv (.str s),.pv (.int .i64 i),.pv (.bool b)])),(.ptr 8192 0,some (.box [.pv (.bool a1),.pv (.str a2),.pv .nils])),(.ptr 12288 0,some (.box [.pv (.bool g),.pv (.str nm),.lst 1 9 (n+1) (q++[str (asStr (headD (tail (drop (toNat k*3) (encEx l))) nilp))]) true])),(.own 94208,some (.lst 3 48 l.length (encEx l) false)),(.pv (.int .i64 (↑ l.length:Int)),none),(.pv (.int .i64 (wrap .i64 (k+1))),none)])) none) none) none) (some (.inr (.exit 0,[(.ptr 0 0,some (.box [.pv (.str s),.pv (.int .i64 i),.pv (.bool b)])),(.ptr 8192 0,some (.box [.pv (.bool a1),.pv (.str a2),.pv .nils])),(.ptr 12288 0,some (.box [.pv (.bool g),.pv (.str nm),.lst 1 9 n q true]))]))):=by kernel_rfl
theorem jlp(s:ByteArray):jm7 brC s=brC (beq 11 11&&decide (size s<=1048576)&&decide ((↑ (size s):Int)>120)) (some ((.tup [.cv (.pv (.bool false)),.cv (.pv (.str {data:=#[]})),.cv (.pv .nils),.cv (.pv (.int .i64 (Int.ofNat 4)))],[]))) (brC (beq 11 11&&decide (size s<=120)&&whL s) (brC (isL (pL (ndT s))) (brC (!subsB (asL (pL (ndT s)))) (some ((.tup [.cv (.pv (.bool false)),.cv (.pv (.str {data:=#[]})),.cv (.pv .nils),.cv (.pv (.int .i64 (Int.ofNat 2)))],[]))) (some ((.tup [.cv (.pv (.bool (nmG s))),.cv (.pv (.str (nmN s))),.cv (.lst 1 9 (length (ndT s)) (map str (ndT s)) true),.cv (.pv (.int .i64 (Int.ofNat 0)))],[])))) none) (brC (beq 11 11&&decide (size s<=120)&&whN s) (brC (isL (sl 0 [])) (brC (!subsB (asL (sl 0 []))) (some ((.tup [.cv (.pv (.bool false)),.cv (.pv (.str {data:=#[]})),.cv (.pv .nils),.cv (.pv (.int .i64 (Int.ofNat 2)))],[]))) (some ((.tup [.cv (.pv (.bool (nmG s))),.cv (.pv (.str (nmN s))),.cv (.pv .nils),.cv (.pv (.int .i64 (Int.ofNat 0)))],[])))) none) (brC (beq 11 11&&decide (size s<=120)) (some ((.tup [.cv (.pv (.bool false)),.cv (.pv (.str {data:=#[]})),.cv (.pv .nils),.cv (.pv (.int .i64 (Int.ofNat 6)))],[]))) none))):=by kernel_rfl
theorem jnS(s:ByteArray):q_nd brC s=brC (okI s 0&&(lexO (SL s 0)&&isS (SL s 0) {data:=#[94]})) (brC (okI s (lexE (SL s 0) 0)&&lexO (SL s (lexE (SL s 0) 0))&&nmS (SL s (lexE (SL s 0) 0))) (brC (okI s (lexE (SL s (lexE (SL s 0) 0)) (lexE (SL s 0) 0))) (brC (lexO (SL s (lexE (SL s (lexE (SL s 0) 0)) (lexE (SL s 0) 0)))&&isS (SL s (lexE (SL s (lexE (SL s 0) 0)) (lexE (SL s 0) 0))) {data:=#[40]}) (brC (!false&&okI s (lexE (SL s (lexE (SL s 0) 0)) (lexE (SL s 0) 0))&&sgnAt s (lexE (SL s (lexE (SL s 0) 0)) (lexE (SL s 0) 0)) sLp&&120==120) (brC (beq 0 0&&beq 8192 8192&&beq 12288 12288&&beq 94208 94208&&beq 48 48&&isEx (sl (length (liL s (i1 s (lexE (SL s (lexE (SL s 0) 0)) (lexE (SL s 0) 0))) false)) (encEx (liL s (i1 s (lexE (SL s (lexE (SL s 0) 0)) (lexE (SL s 0) 0))) false)))&&(↑ (length (liL s (i1 s (lexE (SL s (lexE (SL s 0) 0)) (lexE (SL s 0) 0))) false)):Int)==(↑ (length (liL s (i1 s (lexE (SL s (lexE (SL s 0) 0)) (lexE (SL s 0) 0))) false)):Int)&&0==0&&decide (1<=length (liL s (i1 s (lexE (SL s (lexE (SL s 0) 0)) (lexE (SL s 0) 0))) false))) (some ((.agg [.pv (.bool true),.pv (.str (tx (SL s (lexE (SL s 0) 0)))),.lst 1 9 (length (exT (asEx (sl (length (liL s (i1 s (lexE (SL s (lexE (SL s 0) 0)) (lexE (SL s 0) 0))) false)) (encEx (liL s (i1 s (lexE (SL s (lexE (SL s 0) 0)) (lexE (SL s 0) 0))) false)))))) (map str (exT (asEx (sl (length (liL s (i1 s (lexE (SL s (lexE (SL s 0) 0)) (lexE (SL s 0) 0))) false)) (encEx (liL s (i1 s (lexE (SL s (lexE (SL s 0) 0)) (lexE (SL s 0) 0))) false)))))) true],[[.pv (.str s),.pv (.int .i64 (liE s (i1 s (lexE (SL s (lexE (SL s 0) 0)) (lexE (SL s 0) 0))))),.pv (.bool (liB s (i1 s (lexE (SL s (lexE (SL s 0) 0)) (lexE (SL s 0) 0)))))]]))) none) none) (some ((.agg [.pv (.bool true),.pv (.str (tx (SL s (lexE (SL s 0) 0)))),.pv .nils],[[.pv (.str s),.pv (.int .i64 (lexE (SL s (lexE (SL s 0) 0)) (lexE (SL s 0) 0))),.pv (.bool false)]])))) none) (brC (okI s (lexE (SL s 0) 0)&&lexO (SL s (lexE (SL s 0) 0))) (some ((.agg [.pv (.bool true),.pv (.str {data:=#[]}),.pv .nils],[[.pv (.str s),.pv (.int .i64 (lexE (SL s (lexE (SL s 0) 0)) (lexE (SL s 0) 0))),.pv (.bool true)]]))) (brC (okI s (lexE (SL s 0) 0)) (some ((.agg [.pv (.bool true),.pv (.str {data:=#[]}),.pv .nils],[[.pv (.str s),.pv (.int .i64 (lexE (SL s 0) 0)),.pv (.bool true)]]))) none))) (brC (okI s 0) (brC (okI s 0&&lexO (SL s 0)&&nmS (SL s 0)) (brC (okI s (lexE (SL s 0) 0)) (brC (lexO (SL s (lexE (SL s 0) 0))&&isS (SL s (lexE (SL s 0) 0)) {data:=#[40]}) (brC (!false&&okI s (lexE (SL s 0) 0)&&sgnAt s (lexE (SL s 0) 0) sLp&&120==120) (brC (beq 0 0&&beq 8192 8192&&beq 12288 12288&&beq 94208 94208&&beq 48 48&&isEx (sl (length (liL s (i1 s (lexE (SL s 0) 0)) false)) (encEx (liL s (i1 s (lexE (SL s 0) 0)) false)))&&(↑ (length (liL s (i1 s (lexE (SL s 0) 0)) false)):Int)==(↑ (length (liL s (i1 s (lexE (SL s 0) 0)) false)):Int)&&0==0&&decide (1<=length (liL s (i1 s (lexE (SL s 0) 0)) false))) (some ((.agg [.pv (.bool false),.pv (.str (tx (SL s 0))),.lst 1 9 (length (exT (asEx (sl (length (liL s (i1 s (lexE (SL s 0) 0)) false)) (encEx (liL s (i1 s (lexE (SL s 0) 0)) false)))))) (map str (exT (asEx (sl (length (liL s (i1 s (lexE (SL s 0) 0)) false)) (encEx (liL s (i1 s (lexE (SL s 0) 0)) false)))))) true],[[.pv (.str s),.pv (.int .i64 (liE s (i1 s (lexE (SL s 0) 0)))),.pv (.bool (liB s (i1 s (lexE (SL s 0) 0))))]]))) none) none) (some ((.agg [.pv (.bool false),.pv (.str (tx (SL s 0))),.pv .nils],[[.pv (.str s),.pv (.int .i64 (lexE (SL s 0) 0)),.pv (.bool false)]])))) none) (brC (okI s 0&&lexO (SL s 0)) (some ((.agg [.pv (.bool false),.pv (.str {data:=#[]}),.pv .nils],[[.pv (.str s),.pv (.int .i64 (lexE (SL s 0) 0)),.pv (.bool true)]]))) (brC (okI s 0) (some ((.agg [.pv (.bool false),.pv (.str {data:=#[]}),.pv .nils],[[.pv (.str s),.pv (.int .i64 (Int.ofNat 0)),.pv (.bool true)]]))) none))) none):=by kernel_rfl
theorem jmo(s:ByteArray)(i:Int)(b:Bool)(a1:Bool)(g:Bool)(a2:ByteArray)(nm:ByteArray)(l:ExL)(k:Int):r_nd0 brC s i b a1 g a2 nm l k=brC (decide (k<(↑ l.length:Int))) (brC (decide (0<=k)&&decide (k<(↑ l.length:Int))) (brC (Nat.ble 3 (length (drop (toNat k*3) (encEx l)))&&(PV.isInt .i64 (headD (drop (toNat k*3) (encEx l)) nilp)&&(isStr (headD (tail (drop (toNat k*3) (encEx l))) nilp)&&(isSl (headD (tail (tail (drop (toNat k*3) (encEx l)))) nilp)&&true&&true)&&true)&&true)&&true) (some (.inl [(.ptr 0 0,some (.box [.pv (.str s),.pv (.int .i64 i),.pv (.bool b)])),(.ptr 8192 0,some (.box [.pv (.bool a1),.pv (.str a2),.pv .nils])),(.ptr 12288 0,some (.box [.pv (.bool g),.pv (.str nm),.lst 1 9 1 [str (asStr (headD (tail (drop (toNat k*3) (encEx l))) nilp))] true])),(.own 94208,some (.lst 3 48 l.length (encEx l) false)),(.pv (.int .i64 (↑ l.length:Int)),none),(.pv (.int .i64 (wrap .i64 (k+1))),none)])) none) none) (some (.inr (.exit 0,[(.ptr 0 0,some (.box [.pv (.str s),.pv (.int .i64 i),.pv (.bool b)])),(.ptr 8192 0,some (.box [.pv (.bool a1),.pv (.str a2),.pv .nils])),(.ptr 12288 0,some (.box [.pv (.bool g),.pv (.str nm),.pv .nils]))]))):=by kernel_rfl
theorem jiA(s:ByteArray):q_whn brC s=brC (decide ((↑ (size s):Int)>120)) (some ((.tup [.agg [.pv (.bool false),.pv (.str {data:=#[]}),.pv .nils],.cv (.pv (.int .i64 (Int.ofNat 4)))],[]))) (brC (decide (size s<=120)&&0==0&&!false&&nmOk s&&nmP s) (brC (ndB s) (some ((.tup [.agg [.pv (.bool false),.pv (.str {data:=#[]}),.pv .nils],.cv (.pv (.int .i64 (Int.ofNat 6)))],[]))) (brC (ndE s !=(↑ (size s):Int)) (some ((.tup [.agg [.pv (.bool false),.pv (.str {data:=#[]}),.pv .nils],.cv (.pv (.int .i64 (Int.ofNat 6)))],[]))) (some ((.tup [.agg [.pv (.bool (nmG s)),.pv (.str (nmN s)),.lst 1 9 (length (ndT s)) (map str (ndT s)) true],.cv (.pv (.int .i64 (Int.ofNat 0)))],[]))))) (brC (decide (size s<=120)&&0==0&&!false&&nmOk s) (brC (nm1 s !=(↑ (size s):Int)) (some ((.tup [.agg [.pv (.bool false),.pv (.str {data:=#[]}),.pv .nils],.cv (.pv (.int .i64 (Int.ofNat 6)))],[]))) (some ((.tup [.agg [.pv (.bool (nmG s)),.pv (.str (nmN s)),.pv .nils],.cv (.pv (.int .i64 (Int.ofNat 0)))],[])))) (brC (decide (size s<=120)&&0==0&&!false) (some ((.tup [.agg [.pv (.bool false),.pv (.str {data:=#[]}),.pv .nils],.cv (.pv (.int .i64 (Int.ofNat 6)))],[]))) none))):=by kernel_rfl
theorem jj0(s:ByteArray):jm6 brC s=brC (decide ((↑ (size s):Int)>1048576)) (some ((.cv (.pv (.bool true)),[]))) (brC (decide (size s<=1048576)) (brC (decide (size s<=1048576)&&!irL s) (brC (!rfG s==rfG s) (some ((.cv (.pv (.bool false)),[]))) (brC (!toList (rfN s)==toList (rfN s)) (some ((.cv (.pv (.bool false)),[]))) (brC (isL (sl 0 [])&&isL (pL (rfL s))) (brC (!holds (asL (sl 0 [])=asL (pL (rfL s)))) (some ((.cv (.pv (.bool false)),[]))) (brC (rfC s !=rfC s) (some ((.cv (.pv (.bool false)),[]))) (brC (beq 0 0&&nilB []) (brC (isL (sl 0 [])&&decide (1<=1)&&holds ((1:Int)<=900000000)&&holds (asL (sl 0 [])=mkL 1 (asL (sl 0 [])))) (brC (1+(↑ (length (asL (sl 0 []))):Int) !=1) (some ((.cv (.pv (.bool false)),[]))) (brC (decide (size s<=1048576)&&!irL s) (brC (!rfG s==rfG s) (some ((.cv (.pv (.bool false)),[]))) (brC (!toList (rfN s)==toList (rfN s)) (some ((.cv (.pv (.bool false)),[]))) (brC (isL (sl 0 [])&&isL (pL (rfL s))) (brC (!holds (asL (sl 0 [])=asL (pL (rfL s)))) (some ((.cv (.pv (.bool false)),[]))) (brC (rfC s !=rfC s) (some ((.cv (.pv (.bool false)),[]))) (brC (isL (sl 0 [])&&decide (1<=1)&&holds ((1:Int)<=900000000)&&holds (asL (sl 0 [])=mkL 1 (asL (sl 0 [])))) (brC (1+(↑ (length (asL (sl 0 []))):Int) !=1) (some ((.cv (.pv (.bool false)),[]))) (some ((.cv (.pv (.bool true)),[])))) none))) none))) none)) none) none))) none))) none) none):=by kernel_rfl
theorem jly(s:ByteArray):jm8 brC s=brC (decide ((↑ (size s):Int)>1048576)) (some ((.cv (.pv (.bool true)),[]))) (brC (decide (size s<=1048576)) (brC (decide (size s<=1048576)&&irL s) (brC (!rfG s==rfG s) (some ((.cv (.pv (.bool false)),[]))) (brC (!toList (rfN s)==toList (rfN s)) (some ((.cv (.pv (.bool false)),[]))) (brC (isL (pL (rfL s))&&isL (pL (rfL s))) (brC (!holds (asL (pL (rfL s))=asL (pL (rfL s)))) (some ((.cv (.pv (.bool false)),[]))) (brC (rfC s !=rfC s) (some ((.cv (.pv (.bool false)),[]))) (brC (isL (pL (rfL s))&&beq 9 9&&decide (1<=1)&&holds ((1:Int)<=900000000)) (brC (isL (sl (length (rfL s)) (map str (mkL 1 (asL (pL (rfL s))))))&&decide (1<=1)&&holds ((1:Int)<=900000000)&&holds (asL (sl (length (rfL s)) (map str (mkL 1 (asL (pL (rfL s))))))=mkL 1 (asL (sl (length (rfL s)) (map str (mkL 1 (asL (pL (rfL s))))))))) (brC (1+(↑ (length (asL (sl (length (rfL s)) (map str (mkL 1 (asL (pL (rfL s)))))))):Int) !=1+(↑ (length (asL (pL (rfL s)))):Int)) (some ((.cv (.pv (.bool false)),[]))) (brC (decide (size s<=1048576)&&irL s) (brC (!rfG s==rfG s) (some ((.cv (.pv (.bool false)),[]))) (brC (!toList (rfN s)==toList (rfN s)) (some ((.cv (.pv (.bool false)),[]))) (brC (isL (pL (rfL s))&&isL (pL (rfL s))) (brC (!holds (asL (pL (rfL s))=asL (pL (rfL s)))) (some ((.cv (.pv (.bool false)),[]))) (brC (rfC s !=rfC s) (some ((.cv (.pv (.bool false)),[]))) (brC (isL (sl (length (rfL s)) (map str (mkL 1 (asL (pL (rfL s))))))&&decide (1<=1)&&holds ((1:Int)<=900000000)&&holds (asL (sl (length (rfL s)) (map str (mkL 1 (asL (pL (rfL s))))))=mkL 1 (asL (sl (length (rfL s)) (map str (mkL 1 (asL (pL (rfL s))))))))) (brC (1+(↑ (length (asL (sl (length (rfL s)) (map str (mkL 1 (asL (pL (rfL s)))))))):Int) !=1+(↑ (length (asL (pL (rfL s)))):Int)) (some ((.cv (.pv (.bool false)),[]))) (some ((.cv (.pv (.bool true)),[])))) none))) none))) none)) none) none))) none))) none) none):=by kernel_rfl
theorem jgf:∀ {t u:ExL},encEx t=encEx u->t=u
 |[],[],_=>rfl
 |[],_::_,h=>by cases h
 |_::_,[],h=>by cases h
 |x::t,y::u,h=>by
  rw[jcz,jcz]at h;injection h with h1 h;injection h with h2 h;injection h with h3 h;injection h1 with _ h1;injection h2 with h2;have:=jgf h;cases x;cases y
  simp_all
theorem jhb(t u:ExL)(h:pEx t=pEx u):t=u:=by
 injection h with _ h;exact jgf h
theorem jdk:∀ (t:ExL) (i:Nat) (h:i<t.length),(encEx t).drop (i*3)=.int .i64 t[i].1::.str t[i].2::.sl 0 []::encEx (t.drop (i+1))
 |[],i,h=>by cases h
 |x::t,0,h=>rfl
 |x::t,i+1,h=>by
  have:=jdk t i (by simpa using h);rw[show(i+1)*3=i*3+3 by omega,jcz];show drop (i*3+3) (.int .i64 x.1::.str x.2::.sl 0 []::encEx t)=_;rw[List.drop_succ_cons,List.drop_succ_cons,List.drop_succ_cons,this];simp only[List.getElem_cons_succ,List.drop_succ_cons]
theorem jiz(l:ExL)(i:Nat)(h:i<l.length):exT (l.take (i+1))=exT (l.take i)++[l[i].2]:=by
 unfold exT;rw[List.take_succ_eq_append_getElem h,List.map_append];rfl
theorem jnD:jaf prog rmb0:=⟨ok_li,jhE⟩
theorem jor(s:ByteArray)(i:Int)(b a1 g:Bool)(a2 nm:ByteArray)(l:ExL)(hl:l.length<=100000):∀ (m k:Nat),m+k=l.length->1<=k ->
  LoopsTo (rdB brC prog rmb0 lp_nd LO_nd Tryz.f11 4 [0]) [aB1 (bx s i b),aBx 2 [.pv (.bool a1),.pv (.str a2),.pv .nils],aBx 3 [.pv (.bool g),.pv (.str nm),.lst 1 9 k ((exT (l.take k)).map .str) true],aL 23 3 48 l.length (encEx l),aI l.length,aI k]
   (.exit 0,[aB1 (bx s i b),aBx 2 [.pv (.bool a1),.pv (.str a2),.pv .nils],aBx 3 [.pv (.bool g),.pv (.str nm),.lst 1 9 (exT l).length ((exT l).map .str) true]]):=by
 intro m;induction m with
 |zero=>
  intro k hm h1;have tree:=jhZ s i b a1 g a2 nm k ((exT (l.take k)).map .str) l k;rw[dF (by omega)]at tree;have e:l.take k=l:=List.take_of_length_le (by omega);have e2:(exT l).length=k:=by unfold exT;rw[List.length_map];omega
  rw[e]at tree ⊢;rw[e2];exact .done _ _ tree
 |succ m ih=>
  intro k hm h1;have hk:k<l.length:=by omega
  have tree:=jhZ s i b a1 g a2 nm k ((exT (l.take k)).map .str) l k;simp(disch:=omega) only[dT,nqF,jdk l k hk,nqH,List.headD_cons,List.tail_cons,PV.isInt,isStr,asStr,isSl,ble3,wrap1,decide_true,Bool.and_true]at tree;refine .step _ _ _ (tree.trans rfl) ?_;have:=ih (k+1) (by omega) (by omega);rw[jiz l k hk,List.map_append]at this;exact this
theorem jmq(s:ByteArray)(i:Int)(b a1 g:Bool)(a2 nm:ByteArray)(l:ExL)(hl:l.length<=100000)(h1:1<=l.length):
  LoopsTo (rdB brC prog rmb0 lp_nd LO_nd Tryz.f11 4 [0]) [aB1 (bx s i b),aBx 2 [.pv (.bool a1),.pv (.str a2),.pv .nils],aBx 3 [.pv (.bool g),.pv (.str nm),.pv .nils],aL 23 3 48 l.length (encEx l),aI l.length,aI 0]
   (.exit 0,[aB1 (bx s i b),aBx 2 [.pv (.bool a1),.pv (.str a2),.pv .nils],aBx 3 [.pv (.bool g),.pv (.str nm),.lst 1 9 (exT l).length ((exT l).map .str) true]]):=by
 have hk:0<l.length:=h1;have tree:=jmo s i b a1 g a2 nm l ((0:Nat):Int);simp(disch:=omega) only[dT,nqF,jdk l 0 hk,nqH,List.headD_cons,List.tail_cons,PV.isInt,isStr,asStr,isSl,ble3,wrap1,decide_true,Bool.and_true]at tree;refine .step _ _ _ (tree.trans rfl) ?_;have:=jor s i b a1 g a2 nm l hl (l.length-1) 1 (by omega) (Nat.le_refl _);rw[show exT (l.take 1)=[l[0].2]from jiz l 0 hk]at this;exact this
theorem joX:∀ (f:Nat) (s:ByteArray) (i:Int) (b:Bool),okS s i=true->(liF f s i b).1.length+i.toNat<=s.size+1:=by
 intro f;induction f with
 |zero=>
  intro s i b h;have:=jav h;show 0+_<=_;omega
 |succ f ih=>
  intro s i b h;have hb:=jav h;rw[jc6];cases b with
  |true=>show 0+_<=_;omega
  |false=>
   obtain⟨h1,h2⟩:=jk9 h;have hb1:=jav h1;cases hC:sgnAt s (subE s i) jbf with
   |false=>show 1+_<=_;omega
   |true=>
    obtain⟨_,_,h3,h4,_⟩:=jaW h1 hC;have e:=ih s (i1 s (subE s i)) (subBd s i) h3;show((liF f s (i1 s (subE s i)) (subBd s i)).1.length+1)+_<=_;have hb3:=jav h3;omega
theorem jg7{s:ByteArray}{i:Int}(h:okS s i=true)(hs:s.size<=120):(liL s i false).length+i.toNat<=s.size+1/\1<=(liL s i false).length:=by
 have hb:=jav h;rw[jkQ];refine⟨joX _ s i false h,?_⟩;rw[show s.size+2-i.toNat=(s.size+1-i.toNat)+1 by omega,jc6,cond_false];cases sgnAt s (subE s i) jbf
 .exact Nat.le_refl _
 .exact Nat.succ_le_succ (Nat.zero_le _)
theorem jh8(s:ByteArray):ndT s=exT (liL s (nmJ s) false):=jaU _
set_option maxHeartbeats 1000000 in
theorem jpg{s:ByteArray}(hs:s.size<=120):q_nd brC s=bif nmOk s&&nmP s then some (.agg [.pv (.bool (nmG s)),.pv (.str (nmN s)),.lst 1 9 (ndT s).length ((ndT s).map .str) true],[bx s (ndE s) (ndB s)])
  else bif nmOk s then some (.agg [.pv (.bool (nmG s)),.pv (.str (nmN s)),.pv .nils],[bx s (nm1 s) false])else some (.agg [.pv (.bool (nmG s)),.pv (.str nostr),.pv .nils],[bx s (nmX s) true]):=by
 have tree:=jnS s;have hI:okI s 0=true:=jc1 (jeD (k:=0) (Nat.zero_le _) (by omega)) (by omega);cases hA:lexO (SL s 0)with
 |false=>
  simp only[hI,hA,Nat.beq_refl,beq_self_eq_true,decide_true,Bool.and_true,Bool.and_false,Bool.true_and,Bool.false_and,Bool.not_true,Bool.not_false]at tree;refine tree.trans ?_;simp only[hI,hA,nmOk,nmP,nmG,nmN,nm1,nmX,i0,i1,sgnAt,Bool.and_true,Bool.and_false,Bool.true_and,Bool.false_and,cond_true,cond_false];rfl
 |true=>
  cases hS:isS (SL s 0) caret with
  |true=>
   have hI1:=jf1 hI hA;cases hA1:lexO (SL s (lexE (SL s 0) 0))with
   |false=>
    simp only[hI,hA,hS,hI1,hA1,Nat.beq_refl,beq_self_eq_true,decide_true,Bool.and_true,Bool.and_false,Bool.true_and,Bool.false_and,Bool.not_true,Bool.not_false]at tree;refine tree.trans ?_;simp only[hI,hA,hS,hI1,hA1,nmOk,nmP,nmG,nmN,nm1,nmX,i0,i1,sgnAt,Bool.and_true,Bool.and_false,Bool.true_and,Bool.false_and,cond_true,cond_false];rfl
   |true=>
    cases hN:nmS (SL s (lexE (SL s 0) 0))with
    |false=>
     simp only[hI,hA,hS,hI1,hA1,hN,Nat.beq_refl,beq_self_eq_true,decide_true,Bool.and_true,Bool.and_false,Bool.true_and,Bool.false_and,Bool.not_true,Bool.not_false]at tree;refine tree.trans ?_;simp only[hI,hA,hS,hI1,hA1,hN,nmOk,nmP,nmG,nmN,nm1,nmX,i0,i1,sgnAt,Bool.and_true,Bool.and_false,Bool.true_and,Bool.false_and,cond_true,cond_false];rfl
    |true=>
     have hI2:=jf1 hI1 hA1;cases hA2:lexO (SL s (lexE (SL s (lexE (SL s 0) 0)) (lexE (SL s 0) 0)))with
     |false=>
      simp only[hI,hA,hS,hI1,hA1,hN,hI2,hA2,Nat.beq_refl,beq_self_eq_true,decide_true,Bool.and_true,Bool.and_false,Bool.true_and,Bool.false_and,Bool.not_true,Bool.not_false]at tree;refine tree.trans ?_;simp only[hI,hA,hS,hI1,hA1,hN,hI2,hA2,nmOk,nmP,nmG,nmN,nm1,nmX,i0,i1,sgnAt,Bool.and_true,Bool.and_false,Bool.true_and,Bool.false_and,cond_true,cond_false];rfl
     |true=>
      cases hP:isS (SL s (lexE (SL s (lexE (SL s 0) 0)) (lexE (SL s 0) 0))) sLp with
      |false=>
       simp only[hI,hA,hS,hI1,hA1,hN,hI2,hA2,hP,Nat.beq_refl,beq_self_eq_true,decide_true,Bool.and_true,Bool.and_false,Bool.true_and,Bool.false_and,Bool.not_true,Bool.not_false]at tree;refine tree.trans ?_;simp only[hI,hA,hS,hI1,hA1,hN,hI2,hA2,hP,nmOk,nmP,nmG,nmN,nm1,nmX,i0,i1,sgnAt,Bool.and_true,Bool.and_false,Bool.true_and,Bool.false_and,cond_true,cond_false];rfl
      |true=>
       have hI3:=ja0 (jbg hI2).1 hA2;obtain⟨z1,z2⟩:=jg7 hI3 hs;have x1:isE pEx shEx (sl (liL s (i1 s (lexE (SL s (lexE (SL s 0) 0)) (lexE (SL s 0) 0))) false).length (encEx (liL s (i1 s (lexE (SL s (lexE (SL s 0) 0)) (lexE (SL s 0) 0))) false)))=true:=jlg (enc:=pEx) (show _<=100000 by unfold i1;omega);have x2:asE pEx (sl (liL s (i1 s (lexE (SL s (lexE (SL s 0) 0)) (lexE (SL s 0) 0))) false).length (encEx (liL s (i1 s (lexE (SL s (lexE (SL s 0) 0)) (lexE (SL s 0) 0))) false)))=liL s (i1 s (lexE (SL s (lexE (SL s 0) 0)) (lexE (SL s 0) 0))) false:=jim jhb _;have x3:decide (1<=(liL s (i1 s (lexE (SL s (lexE (SL s 0) 0)) (lexE (SL s 0) 0))) false).length)=true:=dT (by unfold i1;exact z2)
       have hG:sgnAt s (lexE (SL s (lexE (SL s 0) 0)) (lexE (SL s 0) 0)) sLp=true:=by unfold sgnAt;rw[hA2,hP];rfl
       have hJ:nmJ s=i1 s (lexE (SL s (lexE (SL s 0) 0)) (lexE (SL s 0) 0)):=by simp only[nmJ,hI,hA,hS,hI1,hA1,hN,hI2,hA2,hP,nmOk,nmP,nmG,nmN,nm1,nmX,i0,i1,sgnAt,Bool.and_true,Bool.and_false,Bool.true_and,Bool.false_and,cond_true,cond_false]
       simp only[hI,hA,hS,hI1,hA1,hN,hI2,hA2,hP,hG,isEx,asEx,x1,x2,x3,Nat.beq_refl,beq_self_eq_true,decide_true,Bool.and_true,Bool.and_false,Bool.true_and,Bool.false_and,Bool.not_true,Bool.not_false]at tree;refine tree.trans ?_;rw[jh8];unfold ndE ndB;rw[hJ];simp only[hI,hA,hS,hI1,hA1,hN,hI2,hA2,hP,nmOk,nmP,nmG,nmN,nm1,nmX,i0,i1,sgnAt,Bool.and_true,Bool.and_false,Bool.true_and,Bool.false_and,cond_true,cond_false];rfl
  |false=>
   cases hN:nmS (SL s (0))with
   |false=>
    simp only[hI,hA,hS,hN,Nat.beq_refl,beq_self_eq_true,decide_true,Bool.and_true,Bool.and_false,Bool.true_and,Bool.false_and,Bool.not_true,Bool.not_false]at tree;refine tree.trans ?_;simp only[hI,hA,hS,hN,nmOk,nmP,nmG,nmN,nm1,nmX,i0,i1,sgnAt,Bool.and_true,Bool.and_false,Bool.true_and,Bool.false_and,cond_true,cond_false];rfl
   |true=>
    have hI2:=jf1 hI hA;cases hA2:lexO (SL s (lexE (SL s (0)) (0)))with
    |false=>
     simp only[hI,hA,hS,hN,hI2,hA2,Nat.beq_refl,beq_self_eq_true,decide_true,Bool.and_true,Bool.and_false,Bool.true_and,Bool.false_and,Bool.not_true,Bool.not_false]at tree;refine tree.trans ?_;simp only[hI,hA,hS,hN,hI2,hA2,nmOk,nmP,nmG,nmN,nm1,nmX,i0,i1,sgnAt,Bool.and_true,Bool.and_false,Bool.true_and,Bool.false_and,cond_true,cond_false];rfl
    |true=>
     cases hP:isS (SL s (lexE (SL s (0)) (0))) sLp with
     |false=>
      simp only[hI,hA,hS,hN,hI2,hA2,hP,Nat.beq_refl,beq_self_eq_true,decide_true,Bool.and_true,Bool.and_false,Bool.true_and,Bool.false_and,Bool.not_true,Bool.not_false]at tree;refine tree.trans ?_;simp only[hI,hA,hS,hN,hI2,hA2,hP,nmOk,nmP,nmG,nmN,nm1,nmX,i0,i1,sgnAt,Bool.and_true,Bool.and_false,Bool.true_and,Bool.false_and,cond_true,cond_false];rfl
     |true=>
      have hI3:=ja0 (jbg hI2).1 hA2;obtain⟨z1,z2⟩:=jg7 hI3 hs;have x1:isE pEx shEx (sl (liL s (i1 s (lexE (SL s (0)) (0))) false).length (encEx (liL s (i1 s (lexE (SL s (0)) (0))) false)))=true:=jlg (enc:=pEx) (show _<=100000 by unfold i1;omega);have x2:asE pEx (sl (liL s (i1 s (lexE (SL s (0)) (0))) false).length (encEx (liL s (i1 s (lexE (SL s (0)) (0))) false)))=liL s (i1 s (lexE (SL s (0)) (0))) false:=jim jhb _;have x3:decide (1<=(liL s (i1 s (lexE (SL s (0)) (0))) false).length)=true:=dT (by unfold i1;exact z2);have hG:sgnAt s (lexE (SL s (0)) (0)) sLp=true:=by unfold sgnAt;rw[hA2,hP];rfl
      have hJ:nmJ s=i1 s (lexE (SL s (0)) (0)):=by simp only[nmJ,hI,hA,hS,hN,hI2,hA2,hP,nmOk,nmP,nmG,nmN,nm1,nmX,i0,i1,sgnAt,Bool.and_true,Bool.and_false,Bool.true_and,Bool.false_and,cond_true,cond_false]
      simp only[hI,hA,hS,hN,hI2,hA2,hP,hG,isEx,asEx,x1,x2,x3,Nat.beq_refl,beq_self_eq_true,decide_true,Bool.and_true,Bool.and_false,Bool.true_and,Bool.false_and,Bool.not_true,Bool.not_false]at tree;refine tree.trans ?_;rw[jh8];unfold ndE ndB;rw[hJ];simp only[hI,hA,hS,hN,hI2,hA2,hP,nmOk,nmP,nmG,nmN,nm1,nmX,i0,i1,sgnAt,Bool.and_true,Bool.and_false,Bool.true_and,Bool.false_and,cond_true,cond_false];rfl
theorem ok_nd:jae prog 11 E_nd:=jag mix jnD (lp:=lp_nd) (LO:=LO_nd) ⟨Tryz.func11,by kernel_rfl,by kernel_rfl⟩ (by kernel_rfl) fun ivs res bxs h=>by
 unfold E_nd at h;split at h
 .rename_i s i b;refine⟨jaP 4 (by kernel_rfl) (by kernel_rfl) (by kernel_rfl) ?_,?_⟩
  .intro ls e ls' hl;unfold LO_nd at hl;split at hl
   .rename_i x s i b y a1 a2 z g nm u e n l m k;obtain⟨hc,he⟩:=pick1 hl;cases he;obtain⟨⟨⟨⟨⟨⟨⟨⟨k0,k1⟩,k2⟩,k3⟩,k4⟩,k5⟩,k6⟩,k7⟩,k8⟩:=andE8 hc;obtain rfl:=nqB k0;obtain rfl:=nqB k1;obtain rfl:=nqB k2;obtain rfl:=nqB k3;obtain rfl:=nqB k4;obtain rfl:=eq_of_beq k6;obtain rfl:=eq_of_beq k7;have k8:1<=n:=nqI k8;obtain⟨t,q,h_t⟩:=jfR k5;injection q with qa qb;subst qa;subst qb;have e_t:asE pEx (sl t.length (encEx t))=t:=jim jhb t;unfold asEx;rw[e_t];exact jmq s i b a1 g a2 nm t h_t k8
   .cases hl
  .have main:∀ (hs:s.size<=120),i=0->b=false->evB brC prog rmb0 lp_nd LO_nd Tryz.f11 [.box 0 (bx s i b)]=_:=fun hs hi hb=>by
    subst hi;subst hb;exact jpg hs
   rcases jna h with⟨hc,he⟩|⟨hn,hc,he⟩|⟨hn,hn2,hc,he⟩
   .cases he;obtain⟨⟨⟨⟨k0,k1⟩,k2⟩,k3⟩,k4⟩:=andE4 hc;refine(main (nqI k0) (eq_of_beq k1) (by cases b<;>simp_all)).trans ?_;rw[k3,k4];rfl
   .cases he;obtain⟨hc,k3⟩:=andE hc;obtain⟨hc',k2⟩:=andE hc;obtain⟨k0,k1⟩:=andE hc';rw[k3,hc,Bool.true_and,Bool.true_and]at hn;refine(main (nqI k0) (eq_of_beq k1) (by cases b<;>simp_all)).trans ?_;rw[k3,hn];rfl
   .cases he;obtain⟨hc',k2⟩:=andE hc;obtain⟨k0,k1⟩:=andE hc';rw[hc,Bool.true_and]at hn2;refine(main (nqI k0) (eq_of_beq k1) (by cases b<;>simp_all)).trans ?_;rw[hn2];rfl
 .cases h
theorem jnV:jaf prog rmb1:=⟨ok_nd,trivial⟩
theorem jo9{α:Type}{c d e f:Bool}{r1 r2 r3 r4 q:α}(h:pickA [(c,r1),(d,r2),(e,r3),(f,r4)]=some q):(c=true/\r1=q)\/(c=false/\d=true/\r2=q)\/(c=false/\d=false/\e=true/\r3=q)\/(c=false/\d=false/\e=false/\f=true/\r4=q):=by
 cases c with
 |true=>cases h;exact .inl ⟨rfl,rfl⟩
 |false=>exact .inr (by
   rcases jna h with⟨a,b⟩|⟨a,b,c⟩|⟨a,b,c,d⟩
   .exact .inl ⟨rfl,a,b⟩
   .exact .inr (.inl ⟨rfl,a,b,c⟩)
   .exact .inr (.inr ⟨rfl,a,b,c,d⟩))
theorem joF{s:ByteArray}(hs:s.size<=120):q_whn brC s=bif whL s then some (.tup [.agg [.pv (.bool (nmG s)),.pv (.str (nmN s)),.lst 1 9 (ndT s).length ((ndT s).map .str) true],cI 0],[])
  else bif whN s then some (.tup [.agg [.pv (.bool (nmG s)),.pv (.str (nmN s)),.pv .nils],cI 0],[])else some (.tup [.agg [.pv (.bool false),.pv (.str nostr),.pv .nils],cI 6],[]):=by
 have tree:=jiA s;have d1:decide ((s.size:Int)>120)=false:=dF (by omega);have d2:decide (s.size<=120)=true:=dT hs;unfold whL whN;cases hO:nmOk s<;>cases hP:nmP s<;>cases hB:ndB s<;>cases hE:(ndE s==(s.size:Int))<;>cases h1:(nm1 s==(s.size:Int)) <;>
  simp only[bne,d1,d2,hO,hP,hB,hE,h1,beq_self_eq_true,Bool.and_true,Bool.and_false,Bool.true_and,Bool.false_and,Bool.not_true,Bool.not_false,cond_true,cond_false]at tree ⊢<;>exact tree.trans rfl
theorem jo0:jae prog 10 E_whn:=jag mix jnV (lp:=[(1000000,[],[33])]) (LO:=LO0) ⟨Tryz.func10,by kernel_rfl,by kernel_rfl⟩ (by kernel_rfl) fun ivs res bxs h=>by
 unfold E_whn at h;split at h
 .rename_i s f;refine⟨jaC (by kernel_rfl),?_⟩;have main:∀ (hs:s.size<=120),f=11->evB brC prog rmb1 [(1000000,[],[33])] LO0 Tryz.f10 [cS s,.cv (.pv (.clo f []))]=_:=fun hs hf=>by
   subst hf;exact joF hs
  rcases jo9 h with⟨hc,he⟩|⟨h1,hc,he⟩|⟨h1,h2,hc,he⟩|⟨h1,h2,h3,hc,he⟩
  .cases he;obtain⟨⟨k0,k1⟩,k2⟩:=andE2 hc;obtain rfl:=nqB k0;refine(jiA s).trans ?_;rw[k2];rfl
  .cases he;obtain⟨⟨k0,k1⟩,k2⟩:=andE2 hc;refine(main (nqI k1) (nqB k0)).trans ?_;rw[k2];rfl
  .cases he;obtain⟨hc,k2⟩:=andE hc;rw[hc,Bool.true_and]at h2;obtain⟨k0,k1⟩:=andE hc;refine(main (nqI k1) (nqB k0)).trans ?_;rw[k2,h2];rfl
  .cases he;rw[hc,Bool.true_and]at h2 h3;obtain⟨k0,k1⟩:=andE hc;refine(main (nqI k1) (nqB k0)).trans ?_;rw[h2,h3];rfl
 .cases h
theorem jmA(s:ByteArray)(i:Int):subE s i=litE s i/\subBd s i=litB s i/\(litB s i=false->subT s i=litT s i):=by
 rw[jgS,jhQ,jh5,jlK,jk3,jhG];unfold subF litF;cases lexO (SL s (sgE s i false))with
 |false=>exact⟨rfl,rfl,fun h=>by cases h⟩
 |true=>
  cases h3:(lexK (SL s (sgE s i false))==3)with
  |true=>
   have h2:(lexK (SL s (sgE s i false))==2)=false:=by
    rw[eq_of_beq h3];rfl
   simp only[bne,h2,h3,cond_true,cond_false,Bool.not_true];exact⟨trivial,trivial,fun _=>trivial⟩
  |false=>
   cases h2:(lexK (SL s (sgE s i false))==2)with
   |true=>
    simp only[cond_true,cond_false];exact⟨trivial,trivial,fun _=>trivial⟩
   |false=>
    simp only[bne,h3,cond_true,cond_false,Bool.not_false];exact⟨trivial,trivial,fun h=>by cases h⟩
theorem jn5{s:ByteArray}{i:Int}(h:sgnAt s i sRp=true):sgnAt s i jbf=false:=by
 cases hc:sgnAt s i jbf with
 |false=>rfl
 |true=>
  unfold sgnAt isS at h hc;have a:=eq_of_beq (andE (andE h).2).2;have b:=eq_of_beq (andE (andE hc).2).2;rw[a]at b;have e1:sRp.toList=[41]:=jd6 [41];have e2:jbf.toList=[44]:=jd6 [44];rw[e1,e2]at b;cases b
theorem jok:∀ (f:Nat) (s:ByteArray) (i:Int) (b:Bool),
  (lsF f s i b).2.2=!(sgnAt s (liF f s i b).2.1 sRp&&!(liF f s i b).2.2)/\((lsF f s i b).2.2=false->b=false/\(lsF f s i b).2.1=i1 s (liF f s i b).2.1/\(lsF f s i b).1=exT (liF f s i b).1):=by
 intro f;induction f with
 |zero=>
  intro s i b;refine⟨?_,fun h=>by cases h⟩;show true=!(sgnAt s i sRp&&!true);simp
 |succ f ih=>
  intro s i b;rw[jdV,jc6];cases b with
  |true=>
   refine⟨?_,fun h=>by cases h⟩;show true=!(sgnAt s i sRp&&!true);simp
  |false=>
   obtain⟨e1,e2,e3⟩:=jmA s i;rw[e1,e2,cond_false,cond_false];cases hR:sgnAt s (litE s i) sRp with
   |true=>
    rw[jn5 hR,cond_true,cond_false];refine⟨?_,fun h=>⟨rfl,rfl,?_⟩⟩
    .show litB s i=!(sgnAt s (litE s i) sRp&&!litB s i);rw[hR];simp
    .show [litT s i]=[subT s i];rw[e3 h]
   |false=>
    rw[cond_false];cases hC:sgnAt s (litE s i) jbf with
    |false=>
     rw[cond_false,cond_false];refine⟨?_,fun h=>by cases h⟩;show true=!(sgnAt s (litE s i) sRp&&!litB s i);rw[hR];rfl
    |true=>
     rw[cond_true,cond_true];obtain⟨i1',i2'⟩:=ih s (i1 s (litE s i)) (litB s i);refine⟨i1',fun h=>?_⟩;obtain⟨j1,j2,j3⟩:=i2' h;refine⟨rfl,j2,?_⟩;show litT s i::_=subT s i::_;rw[e3 j1,j3];rfl
theorem jkO{s:ByteArray}{i:Int}(h:okS s i=true)(h1:1<=i)(hs:s.size<=120):lsB s i false=liB s i/\(liB s i=false->lsE s i false=liE s i/\lsL s i false=exT (liL s i false)):=by
 have hb:=jav h;obtain⟨z1,z2⟩:=jg7 h hs;rw[jne,jnf,dF (show ¬((liL s i false).length:Int)>120 by omega),Bool.or_false];obtain⟨e1,e2⟩:=jok (s.size+2-i.toNat) s i false;rw[<- jiH,<- jnc,<- jiD]at e1;rw[<- jiD,<- jiH,<- jnm,<- jlW,<- jkQ]at e2;cases hR:sgnAt s (ljE s i false) sRp with
 |false=>
  rw[hR]at e1;exact⟨e1,fun h=>by cases h⟩
 |true=>
  rw[hR,Bool.true_and,Bool.not_not]at e1;rw[cond_true,cond_true];refine⟨e1,fun h=>?_⟩;obtain⟨_,j2,j3⟩:=e2 (e1.trans h);exact⟨j2,j3⟩
theorem jhY{s:ByteArray}(hs:s.size<=120)(hO:nmOk s=true)(hP:nmP s=true):okS s (nmJ s)=true/\1<=nmJ s:=by
 have h0:okS s 0=true:=jeD (k:=0) (Nat.zero_le _) (by omega);have hi:okS s (i0 s)=true:=by
  unfold i0;cases hc:sgnAt s 0 caret with
  |false=>exact h0
  |true=>exact(jaW h0 hc).2.2.1
 have h1:=ja0 hi (andE hO).1;have hb:=jav h1;obtain⟨_,_,h3,h4,_⟩:=jaW (i:=i1 s (i0 s)) h1 hP;have hb':0<=i1 s (i0 s):=hb.1;exact⟨h3,show 1<=i1 s (i1 s (i0 s))by omega⟩
theorem rf_wh{s:ByteArray}(hs:s.size<=120):rfF s=bif whL s then some (nmG s,nmN s,ndT s)else bif whN s then some (nmG s,nmN s,[])else none:=by
 unfold rfF whL whN;show(bif nmOk s then bif nmP s then bif !lsB s (nmJ s) false&&(lsE s (nmJ s) false==(s.size:Int))then some (nmG s,nmN s,lsL s (nmJ s) false)else none else bif nm1 s==(s.size:Int)then some (nmG s,nmN s,[])else none else none)=_;cases hO:nmOk s with
 |false=>simp only[Bool.false_and,cond_false]
 |true=>
  cases hP:nmP s with
  |false=>simp only[Bool.true_and,Bool.false_and,Bool.not_false,cond_true,cond_false]
  |true=>
   obtain⟨h1,h2⟩:=jhY hs hO hP;obtain⟨e1,e2⟩:=jkO h1 h2 hs;unfold ndB ndE;rw[e1,jh8];cases hB:liB s (nmJ s)with
   |true=>simp only[Bool.true_and,Bool.not_true,Bool.false_and,cond_true,cond_false]
   |false=>
    obtain⟨j1,j2⟩:=e2 hB;rw[j1,j2];simp only[Bool.true_and,Bool.not_true,Bool.not_false,Bool.false_and,cond_true,cond_false]
theorem jla{s:ByteArray}(hs:s.size<=120):rfO s=bif whL s then(bif subsB (ndT s)then(nmG s,nmN s,ndT s,0)else(false,nostr,[],2))else bif whN s then(nmG s,nmN s,[],0)else(false,nostr,[],6):=by
 have h:=rf_wh hs;cases hL:whL s with
 |true=>
  rw[hL,cond_true]at h;rw[cond_true];cases hu:subsB (ndT s)with
  |true=>exact jf3 h hs hu
  |false=>exact jjR h hs hu
 |false=>
  rw[hL,cond_false]at h;rw[cond_false];cases hN:whN s with
  |true=>rw[hN,cond_true]at h;exact jf3 h hs rfl
  |false=>rw[hN,cond_false]at h;exact jiu h hs
theorem jnj{s:ByteArray}(hs:s.size<=120)(h:whL s=true):shL (ndT s):=by
 obtain⟨⟨⟨k0,k1⟩,k2⟩,k3⟩:=andE3 h;obtain⟨h1,h2⟩:=jhY hs k0 k1;obtain⟨e1,e2⟩:=jkO h1 h2 hs;have hB:liB s (nmJ s)=false:=by
  unfold ndB at k2;simpa using k2
 rw[jh8,<- (e2 hB).2];exact ls_sh h1 (by omega)
theorem jlG:jaf prog rmb2:=⟨jo0,ji6,trivial⟩
theorem jid(s:ByteArray)(hs:s.size<=1048576):jm7 brC s=bif irL s then some (.tup [cB (rfG s),cS (rfN s),.cv (.lst 1 9 (rfL s).length ((rfL s).map .str) true),cI (rfC s)],[])
  else some (.tup [cB (rfG s),cS (rfN s),.cv (.pv .nils),cI (rfC s)],[]):=by
 have tree:=jlp s;have d0:decide (s.size<=1048576)=true:=dT hs;have n1:isE pL shL (sl 0 [])=true:=jbx (xs:=[]) ⟨by decide,fun t ht=>by cases ht⟩;have n2:asE pL (sl 0 [])=[]:=jaR [];have n3:subsB []=true:=rfl;rw[jgC,jgw,jeB,jgQ];unfold irL;by_cases h1:(s.size:Int)>120
 .have e:rfO s=(false,nostr,[],4):=by
   unfold rfO;rw[dT h1];rfl
  rw[e,dF (show ¬s.size<=120 by omega)];simp only[d0,dT h1,Nat.beq_refl,Bool.and_true]at tree;exact tree.trans rfl
 .have hs2:s.size<=120:=by omega
  have d1:decide ((s.size:Int)>120)=false:=dF h1;have d2:decide (s.size<=120)=true:=dT hs2;rw[jla hs2];cases hL:whL s with
  |true=>
   have n4:isE pL shL (sl (ndT s).length ((ndT s).map str))=true:=jbx (jnj hs2 hL);have n5:asE pL (sl (ndT s).length ((ndT s).map str))=ndT s:=jaR _;cases hu:subsB (ndT s)<;>simp only[d0,d1,d2,hL,hu,isL,asL,n4,n5,Nat.beq_refl,Bool.and_true,Bool.and_false,Bool.true_and,Bool.not_true,Bool.not_false,cond_true,cond_false]at tree ⊢<;>exact tree.trans rfl
  |false=>cases hN:whN s<;>simp only[d0,d1,d2,hL,hN,isL,asL,n1,n2,n3,Nat.beq_refl,Bool.and_true,Bool.and_false,Bool.true_and,Bool.false_and,Bool.not_true,Bool.not_false,cond_true,cond_false]at tree ⊢<;>exact tree.trans rfl
theorem jnA:jae prog 5 E_iRfL:=jag mix jlG (lp:=[(1000000,[],[19])]) (LO:=LO0) ⟨Tryz.func5,by kernel_rfl,by kernel_rfl⟩ (by kernel_rfl) fun ivs res bxs h=>by
 unfold E_iRfL at h;split at h
 .rename_i s;obtain⟨hc,he⟩:=pick1 h;cases he;obtain⟨k0,k1⟩:=andE hc;refine⟨jaC (by kernel_rfl),(jid s (nqI k0)).trans ?_⟩;rw[k1];rfl
 .cases h
theorem joq:jae prog 5 E_iRfN:=jag mix jlG (lp:=[(1000000,[],[19])]) (LO:=LO0) ⟨Tryz.func5,by kernel_rfl,by kernel_rfl⟩ (by kernel_rfl) fun ivs res bxs h=>by
 unfold E_iRfN at h;split at h
 .rename_i s;obtain⟨hc,he⟩:=pick1 h;cases he;obtain⟨k0,k1⟩:=andE hc;have k1:irL s=false:=by simpa using k1
  refine⟨jaC (by kernel_rfl),(jid s (nqI k0)).trans ?_⟩;rw[k1];rfl
 .cases h
theorem jiI:∀ (k:Int) (l:List ByteArray),mkL k (mkL k l)=mkL k l
 |k,[]=>rfl
 |k,x::t=>by
  show mkV k::mkL (k+1) (mkL (k+1) t)=mkV k::mkL (k+1) t;rw[jiI]
theorem jl6(k:Int):(mkV k).size<=21:=by
 have h:∀ l:List UInt8,(bs (109::l)).size=l.length+1:=fun l=>by rw[jiL,nqH]
 unfold mkV;rw[jeh,h];have:=jfM 20 k.toNat [];rw[List.length_nil]at this;omega
theorem jnl:∀ (l:List ByteArray) (k:Int),∀ x∈mkL k l,x.size<=21
 |[],_,x,hx=>by cases hx
 |y::t,k,x,hx=>by
  rcases List.mem_cons.1 hx with rfl|hx
  .exact jl6 k
  .exact jnl t (k+1) x hx
theorem jpi{s:ByteArray}(h:irL s=true):shL (rfL s):=by
 obtain⟨⟨k0,k1⟩,k2⟩:=andE2 h;have hs:=nqI k0;rw[jeB,jla hs,k1,cond_true,k2,cond_true];exact jnj hs k1
theorem jns{s:ByteArray}(h:irL s=false):rfL s=[]:=by
 unfold irL at h;rw[jeB];by_cases h1:(s.size:Int)>120
 .unfold rfO;rw[dT h1];rfl
 .rw [jla (by omega)];rw[dT (show s.size<=120 by omega),Bool.true_and]at h;cases hL:whL s with
  |true=>
   rw[hL,Bool.true_and]at h;rw[cond_true,h,cond_false]
  |false=>
   rw[cond_false];cases whN s<;>rfl
theorem law_L(s:ByteArray)(hL:irL s=true):jm8 brC s=some (cB true,[]):=by
 have tree:=jly s;by_cases h:s.size<=1048576
 .have hsh:=jpi hL;have d1:decide ((s.size:Int)>1048576)=false:=dF (by omega);have d2:decide (s.size<=1048576)=true:=dT h;have e1:(toList (rfN s)==toList (rfN s))=true:=by simp
  have e2:(rfG s==rfG s)=true:=by simp
  have e3:(rfC s !=rfC s)=false:=by simp
  have n1:isE pL shL (sl (rfL s).length ((rfL s).map str))=true:=jbx hsh;have n2:asE pL (sl (rfL s).length ((rfL s).map str))=rfL s:=jaR _;have hm:shL (mkL 1 (rfL s)):=⟨by rw[jdq];exact hsh.1,fun x hx=>Nat.le_trans (jnl _ _ x hx) (by decide)⟩
  have n3:isE pL shL (sl (rfL s).length ((mkL 1 (rfL s)).map str))=true:=by rw[<- jdq 1 (rfL s)];exact jbx hm
  have n4:asE pL (sl (rfL s).length ((mkL 1 (rfL s)).map str))=mkL 1 (rfL s):=by rw[<- jdq 1 (rfL s)];exact jaR _
  have q1:∀ x:List ByteArray,holds (x=x)=true:=fun x=>jaZ rfl
  have q2:holds (mkL 1 (rfL s)=mkL 1 (mkL 1 (rfL s)))=true:=jaZ (jiI 1 _).symm;have q3:holds ((1:Int)<=900000000)=true:=jaZ (by decide);have q4:decide ((1:Int)<=1)=true:=rfl;have q6:decide ((1:Nat)<=1)=true:=rfl;have q0:holds True=true:=jaZ trivial;have q5:(1+((mkL 1 (rfL s)).length:Int) !=1+((rfL s).length:Int))=false:=by rw[jdq];simp
  simp only[d1,d2,hL,e1,e2,e3,isL,asL,n1,n2,n3,n4,q0,q1,q2,q3,q4,q5,q6,Nat.beq_refl,Bool.and_true,Bool.true_and,Bool.not_true]at tree;exact tree.trans rfl
 .rw [dT (show(s.size:Int)>1048576 by omega)]at tree;exact tree.trans rfl
theorem law_N(s:ByteArray)(hL:irL s=false):jm6 brC s=some (cB true,[]):=by
 have tree:=jj0 s;by_cases h:s.size<=1048576
 .have d1:decide ((s.size:Int)>1048576)=false:=dF (by omega);have d2:decide (s.size<=1048576)=true:=dT h;have e1:(toList (rfN s)==toList (rfN s))=true:=by simp
  have e2:(rfG s==rfG s)=true:=by simp
  have e3:(rfC s !=rfC s)=false:=by simp
  have e4:=jns hL;have n1:isE pL shL (sl 0 [])=true:=jbx (xs:=[]) ⟨by decide,fun t ht=>by cases ht⟩;have n2:asE pL (sl 0 [])=[]:=jaR [];have n3:isE pL shL (sl (rfL s).length ((rfL s).map str))=true:=by rw[e4];exact n1
  have n4:asE pL (sl (rfL s).length ((rfL s).map str))=[]:=by rw[e4];exact n2
  have q1:∀ x:List ByteArray,holds (x=x)=true:=fun x=>jaZ rfl
  have q2:holds (([]:List ByteArray)=mkL 1 [])=true:=jaZ rfl;have q3:holds ((1:Int)<=900000000)=true:=jaZ (by decide);have q4:decide ((1:Int)<=1)=true:=rfl;have q6:decide ((1:Nat)<=1)=true:=rfl;have q0:holds True=true:=jaZ trivial;have q5:(1+((([]:List ByteArray).length:Nat):Int) !=1)=false:=rfl;simp only[d1,d2,hL,e1,e2,e3,isL,asL,n1,n2,n3,n4,q0,q1,q2,q3,q4,q5,q6,jax,Nat.beq_refl,Bool.and_true,Bool.true_and,Bool.not_true,Bool.not_false]at tree;exact tree.trans rfl
 .rw [dT (show(s.size:Int)>1048576 by omega)]at tree;exact tree.trans rfl
theorem jnb{I:Entry}(h:jae prog 5 I):jaf prog (rml I):=⟨joj,h,joB,jom,joZ,trivial⟩
theorem jfl(s:ByteArray)(w:World)(hgl:Gl w (jbs w)):
  Calls Tryz.prog 3 #[.string s] w fun e w'=>e=.returned (.bool true)/\Below w.heap.size w w':=by
 have hc:jar prog 3 ([.str s].map fun p=>.cv (.pv p)) (.cv (.pv (.bool true))) []:=by
  cases hL:irL s with
  |true=>exact jfv mix (jcU (l:=rml E_iRfL) (jnb jnA)) (O:=OL [(1000001,[1600880],[])]) (LO:=LO0) ⟨Tryz.func3,by kernel_rfl,by kernel_rfl⟩ (by kernel_rfl) rfl (jaC (by kernel_rfl)) (law_L s hL)
  |false=>exact jfv mix (jcU (l:=rml E_iRfN) (jnb joq)) (O:=OL []) (LO:=LO0) ⟨Tryz.func3,by kernel_rfl,by kernel_rfl⟩ (by kernel_rfl) rfl (jaC (by kernel_rfl)) (law_N s hL)
 exact hc.lawTop (w:=w) (vals:=[.string s]) (PReps.cons (.str s) (PReps.nil _ _)) hgl
theorem FnExactParseRef_walk(v:Value)(s:ByteArray)(w:World)(hv:PRep w (jbs w) v (.str s))(_:s.size<=2^63-1)(hgl:Gl w (jbs w)):
  Calls Tryz.prog 3 #[v] w fun e w'=>e=.returned (.bool true)/\Below w.heap.size w w':=by
 cases hv;exact jfl s w hgl
section
open Go.RowKit Go.ChangeShapes Go.WideShapes
theorem joD{w:World}{b:Nat}{xs:List Value}(h:∃ t f,w.heap[b]?=some (.cells xs.toArray t f)):GlRow w (jbs w) b xs:=by
 obtain⟨t,f,h⟩:=h;refine⟨⟨t,f,h⟩,?_⟩;unfold jbs;rw[h];simp
theorem jkd{w:World}{name:String}{g:Nat}{k:IntKind}{zs:List Int}(hg:prog.globalNamed name=some g)(h:Lib.TabIs prog w name k zs):GlRow w (jbs w) g (zs.map fun z=>Value.int k z):=by
 unfold Lib.TabIs World.var? at h;rw[hg]at h;dsimp only[nqL]at h;split at h
 .rename_i cs t f hb;cases h;exact joD ⟨t,f,hb⟩
 .cases h
theorem gl_top{w:World}
 (hm:∃ m:Int,w.cell? ⟨0,0,none⟩=some (.int .i64 m))
 (ht : Lib.TabIs Tryz.prog w "internal/strconv.uint64pow10" .u64 Lib.pow10Tab)
 : Gl w (jbs w):=by
 unfold Gl
 refine⟨?_,?_⟩
 .obtain ⟨m,hm⟩:=hm;exact⟨m,hm,jc7 hm⟩
 refine⟨jkd (by kernel_rfl) ht,?_⟩
 trivial
end
end
end Go.Proofs.YtbjfffimnoanpaaGreatDoor