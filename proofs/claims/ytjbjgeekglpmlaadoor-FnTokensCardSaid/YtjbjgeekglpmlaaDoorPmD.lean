/- The reference's parser of places, by the reckoner: what is stated. -/
import Derived.Test.YtjbjgeekglpmlaaDoorPlL
namespace Go.Proofs.YtjbjgeekglpmlaaDoor
open Go.RowKit
set_option linter.unusedVariables false

abbrev bx (s : ByteArray) (i : Int) (b : Bool) : List CV := [.pv (.str s), .pv (.int .i64 i), .pv (.bool b)]
abbrev caret : ByteArray := ⟨#[94]⟩
abbrev nostr : ByteArray := ⟨#[]⟩
def isS (l : List UInt8) (g : ByteArray) : Bool := lexK l == 4 && (bs (lexT l)).toList == g.toList
def nmS (l : List UInt8) : Bool := lexK l == 1 && nameB (bs (lexT l))
def tx (l : List UInt8) : ByteArray := bs (lexT l)

def E_nameS : Entry := fun ivs => match ivs with | [.cv (.pv (.str s))] => [(decide (s.size ≤ 1048576), cB (nameB s), [])] | _ => []
def E_peek : Entry := fun ivs => match ivs with
  | [.box 0 [.pv (.str s), .pv (.int .i64 i), .pv (.bool b)]] => [(okS s i && lexO (SL s i), .agg [.pv (.int .i64 (lexK (SL s i))), .pv (.str (bs (lexT (SL s i)))), .pv (.int .i64 (lexP (SL s i) i))], [bx s i b]), (okS s i, .agg [.pv (.int .i64 6), .pv (.str nostr), .pv (.int .i64 0)], [bx s i true])]
  | _ => []
def E_skip : Entry := fun ivs => match ivs with
  | [.box 0 [.pv (.str s), .pv (.int .i64 i), .pv (.bool b)]] => [(okS s i && lexO (SL s i), .tup [], [bx s (lexE (SL s i) i) b]), (okS s i, .tup [], [bx s i b])]
  | _ => []
def E_is : Entry := fun ivs => match ivs with
  | [.box 0 [.pv (.str s), .pv (.int .i64 i), .pv (.bool b)], .cv (.pv (.str g))] => [(okS s i && lexO (SL s i), cB (isS (SL s i) g), [bx s i b]), (okS s i, cB false, [bx s i true])]
  | _ => []
def E_take : Entry := fun ivs => match ivs with
  | [.box 0 [.pv (.str s), .pv (.int .i64 i), .pv (.bool b)], .cv (.pv (.str g))] => [(okS s i && lexO (SL s i) && isS (SL s i) g, cB true, [bx s (lexE (SL s i) i) b]), (okS s i && lexO (SL s i), cB false, [bx s i b]), (okS s i, cB false, [bx s i true])]
  | _ => []
def E_name : Entry := fun ivs => match ivs with
  | [.box 0 [.pv (.str s), .pv (.int .i64 i), .pv (.bool b)]] => [(okS s i && lexO (SL s i) && nmS (SL s i), cS (tx (SL s i)), [bx s (lexE (SL s i) i) b]), (okS s i, cS nostr, [bx s i true])]
  | _ => []
def tab3 : List (FuncId × Entry) := (65, E_nameS) :: tab2
def tab4 : List (FuncId × Entry) := (64, E_peek) :: (66, E_skip) :: tab3
def tab5 : List (FuncId × Entry) := (48, E_is) :: (49, E_name) :: tab4
def tab6 : List (FuncId × Entry) := (50, E_take) :: tab5

noncomputable def q_peek (br : Br) (s : ByteArray) (i : Int) (b : Bool) := evB br Tryd.prog tab3 [] LO0 Tryd.f64 [.box 0 (bx s i b)]
noncomputable def q_skip (br : Br) (s : ByteArray) (i : Int) (b : Bool) := evB br Tryd.prog tab3 [] LO0 Tryd.f66 [.box 0 (bx s i b)]
noncomputable def q_is (br : Br) (s : ByteArray) (i : Int) (b : Bool) (g : ByteArray) := evB br Tryd.prog tab4 [] LO0 Tryd.f48 [.box 0 (bx s i b), cS g]
noncomputable def q_name (br : Br) (s : ByteArray) (i : Int) (b : Bool) := evB br Tryd.prog tab4 [] LO0 Tryd.f49 [.box 0 (bx s i b)]
noncomputable def q_take (br : Br) (s : ByteArray) (i : Int) (b : Bool) (g : ByteArray) := evB br Tryd.prog tab5 [] LO0 Tryd.f50 [.box 0 (bx s i b), cS g]
/-- Places. -/
def i1 (s : ByteArray) (i : Int) : Int := lexE (SL s i) i
def goodL (s : ByteArray) (i : Int) : Bool := okS s i && lexO (SL s i)
def E_place : Entry := fun ivs => match ivs with
  | [.box 0 [.pv (.str s), .pv (.int .i64 i), .pv (.bool b)]] =>
    [(goodL s i && isS (SL s i) caret && goodL s (i1 s i) && nmS (SL s (i1 s i)), cS (nostr ++ (caret ++ tx (SL s (i1 s i)))), [bx s (i1 s (i1 s i)) b]),
      (goodL s i && isS (SL s i) caret && okS s (i1 s i), cS (nostr ++ (caret ++ nostr)), [bx s (i1 s i) true]),
      (goodL s i && nmS (SL s i) && goodL s (i1 s i) && isS (SL s (i1 s i)) caret && goodL s (i1 s (i1 s i)) && nmS (SL s (i1 s (i1 s i))), cS (tx (SL s i) ++ (caret ++ tx (SL s (i1 s (i1 s i))))), [bx s (i1 s (i1 s (i1 s i))) b]),
      (goodL s i && nmS (SL s i) && goodL s (i1 s i) && isS (SL s (i1 s i)) caret && okS s (i1 s (i1 s i)), cS (tx (SL s i) ++ (caret ++ nostr)), [bx s (i1 s (i1 s i)) true]),
      (goodL s i && nmS (SL s i) && goodL s (i1 s i), cS (tx (SL s i)), [bx s (i1 s i) b]),
      (goodL s i && nmS (SL s i) && okS s (i1 s i), cS (tx (SL s i)), [bx s (i1 s i) true]),
      (okS s i, cS nostr, [bx s i true])]
  | _ => []
noncomputable def q_place (br : Br) (s : ByteArray) (i : Int) (b : Bool) := evB br Tryd.prog tab6 [] LO0 Tryd.f24 [.box 0 (bx s i b)]
end Go.Proofs.YtjbjgeekglpmlaaDoor
