/- Places read whole, by the reckoner: what is stated. -/
import Derived.Test.YtjbjgeekglpmlaaDoorPmP
namespace Go.Proofs.YtjbjgeekglpmlaaDoor
open Go.RowKit
set_option linter.unusedVariables false

/-- What the reader of a place comes to from the start of a text: the text of the place, if it is one. -/
def plc (s : ByteArray) : Option ByteArray :=
  if isS (SL s 0) caret = true ∧ lexO (SL s 0) = true then
    (if lexO (SL s (i1 s 0)) = true ∧ nmS (SL s (i1 s 0)) = true ∧ i1 s (i1 s 0) = s.size then some (caret ++ tx (SL s (i1 s 0))) else none)
  else if lexO (SL s 0) = true ∧ nmS (SL s 0) = true ∧ lexO (SL s (i1 s 0)) = true then
    (if isS (SL s (i1 s 0)) caret = true then
      (if lexO (SL s (i1 s (i1 s 0))) = true ∧ nmS (SL s (i1 s (i1 s 0))) = true ∧ i1 s (i1 s (i1 s 0)) = s.size then some (tx (SL s 0) ++ (caret ++ tx (SL s (i1 s (i1 s 0))))) else none)
    else (if i1 s 0 = s.size then some (tx (SL s 0)) else none))
  else none
/-- Before and behind the first caret. -/
def befC (t : ByteArray) : ByteArray := bs (t.data.toList.takeWhile (fun c => !(c == 94)))
def aftC (t : ByteArray) : ByteArray := bs ((t.data.toList.dropWhile (fun c => !(c == 94))).drop 1)
def tab7 : List (FuncId × Entry) := (24, E_place) :: tab6
abbrev lp_read : List (Nat × List Nat × List Nat) := [(6, [6, 7], [2, 3, 4, 6])]
def hasC (t : ByteArray) (i : Int) : Bool := (SL t i).any (fun c => c == 94)
def toC (t : ByteArray) (i : Int) : Int := i + ((SL t i).takeWhile (fun c => !(c == 94))).length
def LO_read : LoopT := fun _ ls => match ls with
  | [(.pv (.str t), none), (.pv (.int .i64 i), none)] =>
    [(okS t i && hasC t i, .ret, [aS (t.extract 0 (toC t i).toNat), aS (t.extract (toC t i + 1).toNat t.size), aI 0, aS t]), (okS t i, .exit 0, [aX, aX, aX, aS t])]
  | _ => []
noncomputable def r_read (br : Br) (t : ByteArray) (i : Int) := rdB br Tryd.prog tab7 lp_read LO_read Tryd.f13 6 [] [aS t, aI i]
noncomputable def q_read (br : Br) (s : ByteArray) := evB br Tryd.prog tab7 lp_read LO_read Tryd.f13 [cS s]
def rdA (s : ByteArray) : ByteArray := match plc s with | some t => befC t | none => nostr
def rdB' (s : ByteArray) : ByteArray := match plc s with | some t => aftC t | none => nostr
def rdC (s : ByteArray) : Int := match plc s with | some _ => 0 | none => 6
def E_read : Entry := fun ivs => match ivs with | [.cv (.pv (.str s))] => [(decide (s.size ≤ 1000), .tup [cS (rdA s), cS (rdB' s), cI (rdC s)], [])] | _ => []
def tab8 : List (FuncId × Entry) := (13, E_read) :: tab7
noncomputable def q_parseS (br : Br) (s : ByteArray) := evB br Tryd.prog tab8 [] LO0 Tryd.f5 [cS s]
def E_parse : Entry := fun ivs => match ivs with | [.cv (.pv (.str s))] => [(decide ((s.size : Int) > 120) && decide (s.size ≤ 1048576), .tup [cS nostr, cS nostr, cI 4], []), (decide (s.size ≤ 1048576), .tup [cS (rdA s), cS (rdB' s), cI (rdC s)], [])] | _ => []
/-! The program's side. -/
def okI (s : ByteArray) (i : Int) : Bool := okS s i && decide (s.size ≤ 1000)
def E_tokenAt : Entry := fun ivs => match ivs with
  | [.cv (.pv (.str s)), .cv (.pv (.int .i64 i))] => [(okI s i && decide (i < s.size), .cv (.pv (.tup [.agg [.int .i64 (tokK (SL s i)), .str (bs (tokT (SL s i))), .int .i64 i], .int .i64 (tokN (SL s i))])), [])]
  | _ => []
def E_peekI : Entry := fun ivs => match ivs with
  | [.box 0 [.pv (.str s), .pv (.int .i64 i), .pv (.bool b)]] => [(okI s i && lexO (SL s i), .agg [.pv (.int .i64 (lexK (SL s i))), .pv (.str (bs (lexT (SL s i)))), .pv (.int .i64 i)], [bx s i b]), (okI s i, .agg [.pv (.int .i64 0), .pv (.str nostr), .pv (.int .i64 0)], [bx s i b])]
  | _ => []
def E_nextI : Entry := fun ivs => match ivs with
  | [.box 0 [.pv (.str s), .pv (.int .i64 i), .pv (.bool b)]] => [(okI s i && lexO (SL s i), .agg [.pv (.int .i64 (lexK (SL s i))), .pv (.str (bs (lexT (SL s i)))), .pv (.int .i64 i)], [bx s (lexE (SL s i) i) b]), (okI s i, .agg [.pv (.int .i64 0), .pv (.str nostr), .pv (.int .i64 0)], [bx s i true])]
  | _ => []
def E_isI : Entry := fun ivs => match ivs with
  | [.box 0 [.pv (.str s), .pv (.int .i64 i), .pv (.bool b)], .cv (.pv (.str g))] => [(okI s i, cB (lexO (SL s i) && isS (SL s i) g), [bx s i b])]
  | _ => []
def E_takeI : Entry := fun ivs => match ivs with
  | [.box 0 [.pv (.str s), .pv (.int .i64 i), .pv (.bool b)], .cv (.pv (.str g))] => [(okI s i && (lexO (SL s i) && isS (SL s i) g), cB true, [bx s (lexE (SL s i) i) b]), (okI s i, cB false, [bx s i b])]
  | _ => []
def E_nameI : Entry := fun ivs => match ivs with
  | [.box 0 [.pv (.str s), .pv (.int .i64 i), .pv (.bool b)]] => [(okI s i && lexO (SL s i) && nmS (SL s i), cS (tx (SL s i)), [bx s (lexE (SL s i) i) b]), (okI s i && lexO (SL s i), cS nostr, [bx s (lexE (SL s i) i) true]), (okI s i, cS nostr, [bx s i true])]
  | _ => []
def jab0 : List (FuncId × Entry) := [(19, E_tokenAt), (53, E_nameS)]
def jab1 : List (FuncId × Entry) := (51, E_peekI) :: jab0
def jab2 : List (FuncId × Entry) := (25, E_isI) :: (52, E_nextI) :: jab1
def jab3 : List (FuncId × Entry) := (27, E_takeI) :: (26, E_nameI) :: jab2
noncomputable def q_peekI (br : Br) (s : ByteArray) (i : Int) (b : Bool) := evB br Tryd.prog jab0 [] LO0 Tryd.f51 [.box 0 (bx s i b)]
noncomputable def q_isI (br : Br) (s : ByteArray) (i : Int) (b : Bool) (g : ByteArray) := evB br Tryd.prog jab1 [] LO0 Tryd.f25 [.box 0 (bx s i b), cS g]
noncomputable def q_nextI (br : Br) (s : ByteArray) (i : Int) (b : Bool) := evB br Tryd.prog jab1 [] LO0 Tryd.f52 [.box 0 (bx s i b)]
noncomputable def q_takeI (br : Br) (s : ByteArray) (i : Int) (b : Bool) (g : ByteArray) := evB br Tryd.prog jab2 [] LO0 Tryd.f27 [.box 0 (bx s i b), cS g]
noncomputable def q_nameI (br : Br) (s : ByteArray) (i : Int) (b : Bool) := evB br Tryd.prog jab2 [] LO0 Tryd.f26 [.box 0 (bx s i b)]
noncomputable def q_placeI (br : Br) (s : ByteArray) (i : Int) (b : Bool) := evB br Tryd.prog jab3 [] LO0 Tryd.f15 [.box 0 (bx s i b)]
def E_placeI : Entry := fun ivs => match ivs with
  | [.box 0 [.pv (.str s), .pv (.int .i64 i), .pv (.bool b)]] =>
    [(!b && okI s i && (lexO (SL s i) && isS (SL s i) caret) && lexO (SL s (i1 s i)) && nmS (SL s (i1 s i)), cS (nostr ++ (caret ++ tx (SL s (i1 s i)))), [bx s (i1 s (i1 s i)) false]),
      (!b && okI s i && (lexO (SL s i) && isS (SL s i) caret) && lexO (SL s (i1 s i)), cS (nostr ++ (caret ++ nostr)), [bx s (i1 s (i1 s i)) true]),
      (!b && okI s i && (lexO (SL s i) && isS (SL s i) caret), cS (nostr ++ (caret ++ nostr)), [bx s (i1 s i) true]),
      (!b && okI s i && lexO (SL s i) && nmS (SL s i) && (lexO (SL s (i1 s i)) && isS (SL s (i1 s i)) caret) && lexO (SL s (i1 s (i1 s i))) && nmS (SL s (i1 s (i1 s i))), cS (tx (SL s i) ++ (caret ++ tx (SL s (i1 s (i1 s i))))), [bx s (i1 s (i1 s (i1 s i))) false]),
      (!b && okI s i && lexO (SL s i) && nmS (SL s i) && (lexO (SL s (i1 s i)) && isS (SL s (i1 s i)) caret) && lexO (SL s (i1 s (i1 s i))), cS (tx (SL s i) ++ (caret ++ nostr)), [bx s (i1 s (i1 s (i1 s i))) true]),
      (!b && okI s i && lexO (SL s i) && nmS (SL s i) && (lexO (SL s (i1 s i)) && isS (SL s (i1 s i)) caret), cS (tx (SL s i) ++ (caret ++ nostr)), [bx s (i1 s (i1 s i)) true]),
      (!b && okI s i && lexO (SL s i) && nmS (SL s i), cS (tx (SL s i) ++ nostr), [bx s (i1 s i) false]),
      (!b && okI s i && lexO (SL s i), cS (nostr ++ nostr), [bx s (i1 s i) true]),
      (!b && okI s i, cS (nostr ++ nostr), [bx s i true])]
  | _ => []
def jab4 : List (FuncId × Entry) := (15, E_placeI) :: jab3
def wI (s : ByteArray) : Option ByteArray :=
  if (lexO (SL s 0) && isS (SL s 0) caret) = true then
    (if (lexO (SL s (i1 s 0)) && nmS (SL s (i1 s 0))) = true ∧ i1 s (i1 s 0) = s.size then some (nostr ++ (caret ++ tx (SL s (i1 s 0)))) else none)
  else if (lexO (SL s 0) && nmS (SL s 0)) = true then
    (if (lexO (SL s (i1 s 0)) && isS (SL s (i1 s 0)) caret) = true then
      (if (lexO (SL s (i1 s (i1 s 0))) && nmS (SL s (i1 s (i1 s 0)))) = true ∧ i1 s (i1 s (i1 s 0)) = s.size then some (tx (SL s 0) ++ (caret ++ tx (SL s (i1 s (i1 s 0))))) else none)
    else (if i1 s 0 = s.size then some (tx (SL s 0) ++ nostr) else none))
  else none
def E_whole : Entry := fun ivs => match ivs with
  | [.cv (.pv (.str s)), .cv (.pv (.clo f []))] => [(Nat.beq f 15 && decide ((s.size : Int) > 120) && decide (s.size ≤ 1048576), .tup [cS nostr, cI 4], []),
      (Nat.beq f 15 && decide (s.size ≤ 1048576) && (wI s).isSome, .tup [cS ((wI s).getD nostr), cI 0], []), (Nat.beq f 15 && decide (s.size ≤ 1048576), .tup [cS nostr, cI 6], [])]
  | _ => []
noncomputable def q_whole (br : Br) (s : ByteArray) := evB br Tryd.prog jab4 [] LO0 Tryd.f14 [cS s, .cv (.pv (.clo 15 []))]
def E_cut : Entry := fun ivs => match ivs with
  | [.cv (.pv (.str t)), .cv (.pv (.str g))] => [(decide (t.size ≤ 1048576) && (g.data.toList == [94]), .tup [cS (befC t), cS (aftC t), cB (hasC t 0)], [])]
  | _ => []
def E_index : Entry := fun ivs => match ivs with
  | [.cv (.pv (.str t)), .cv (.pv (.str g))] => [((g.data.toList == [94]), cI (Lib.indexByte t.data.toList 94), [])]
  | _ => []
def cab0 : List (FuncId × Entry) := [(54, E_index)]
def cab1 : List (FuncId × Entry) := (28, E_cut) :: cab0
noncomputable def q_cutL (br : Br) (t : ByteArray) := evB br Tryd.prog cab0 [] LO0 Tryd.f28 [cS t, cS caret]
noncomputable def q_cut (br : Br) (t : ByteArray) := evB br Tryd.prog cab1 [] LO0 Tryd.f16 [cS t, cS caret]
def jab5 : List (FuncId × Entry) := (14, E_whole) :: (16, E_cut) :: jab4
noncomputable def q_parseI (br : Br) (s : ByteArray) := evB br Tryd.prog jab5 [] LO0 Tryd.f6 [cS s]
/-! The law. -/
def E_parseI : Entry := fun ivs => match ivs with
  | [.cv (.pv (.str s))] => [(decide ((s.size : Int) > 120) && decide (s.size ≤ 1048576), .tup [cS nostr, cS nostr, cI 4], []), (decide (s.size ≤ 1048576), .tup [cS (rdA s), cS (rdB' s), cI (rdC s)], [])]
  | _ => []
def lab0 : List (FuncId × Entry) := [(5, E_parse), (6, E_parseI)]
noncomputable def q_law (br : Br) (s : ByteArray) := evB br Tryd.prog lab0 [] LO0 Tryd.f3 [cS s]
end Go.Proofs.YtjbjgeekglpmlaaDoor
