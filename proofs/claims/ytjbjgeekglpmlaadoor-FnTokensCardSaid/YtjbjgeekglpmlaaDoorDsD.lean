/- Draws, by the reckoner: what is stated. -/
import Derived.Test.YtjbjgeekglpmlaaDoorProg
import Derived.Test.YtjbjgeekglpmlaaDoorPlP
namespace Go.Proofs.YtjbjgeekglpmlaaDoor
open Go.RowKit
set_option linter.unusedVariables false

/-- A source of draws: the bytes, how many were drawn, the seed. -/
abbrev sx (n : Nat) (l : List PV) (a g : Int) : List CV := [.pv (.sl n l), .pv (.int .i64 a), .pv (.int .u64 g)]
def wfB (n : Nat) (l : List PV) : Bool := Nat.beq l.length n && l.all (fun p => p.isInt .u8 && decide (0 ≤ p.asInt) && decide (p.asInt < 256))
/-- The byte that is read at the k-th draw, and the seed behind it. -/
def byteK (l : List PV) (k : Nat) : Int := if k < l.length then IntKind.wrap .i64 ((l.drop k).headD .nilp).asInt else 0
def seedS (g b : Int) : Int := IntKind.wrap .u64 (IntKind.wrap .u64 (IntKind.wrap .u64 (g * 6364136223846793005) + IntKind.wrap .u64 b) + 1442695040888963407)
def seedK (l : List PV) : Nat → Int
  | 0 => 0
  | k + 1 => seedS (seedK l k) (byteK l k)
/-- The k-th draw. -/
def drawK (l : List PV) (k : Nat) : Int := if k < l.length then byteK l k else IntKind.wrap .i64 (bits .and .u64 ((seedK l (k + 1)).fdiv (2 ^ 40)) 255)
def srcOk (n : Nat) (l : List PV) (a g : Int) : Bool := wfB n l && decide (0 ≤ a) && decide (a ≤ 1048576) && decide (n ≤ 1048576) && (g == seedK l a.toNat)
abbrev sk (n : Nat) (l : List PV) (k : Nat) : List CV := sx n l k (seedK l k)
def E_from : Entry := fun ivs => match ivs with | [.cv (.pv (.sl n l))] => [(true, .box 0 (sx n l 0 0), [])] | _ => []
def E_next : Entry := fun ivs => match ivs with
  | [.box 0 [.pv (.sl n l), .pv (.int .i64 a), .pv (.int .u64 g)]] => [(srcOk n l a g, cI (drawK l a.toNat), [sx n l (a + 1) (seedK l (a.toNat + 1))])]
  | _ => []
def dab0 : List (FuncId × Entry) := [(18, E_from), (55, E_next)]
noncomputable def q_from (br : Br) (n : Nat) (l : List PV) := evB br Tryd.prog [] [] LO0 Tryd.f18 [.cv (.pv (.sl n l))]
noncomputable def q_next (br : Br) (n : Nat) (l : List PV) (a g : Int) := evB br Tryd.prog [] [] LO0 Tryd.f55 [.box 0 (sx n l a g)]
noncomputable def q_pick (br : Br) (n : Nat) (l : List PV) (a g m : Int) := evB br Tryd.prog dab0 [] LO0 Tryd.f29 [.box 0 (sx n l a g), cI m]
/-- A choice out of few. -/
def pickV (l : List PV) (k : Nat) (m : Int) : Int := (drawK l k).tmod m
def E_pick : Entry := fun ivs => match ivs with
  | [.box 0 [.pv (.sl n l), .pv (.int .i64 a), .pv (.int .u64 g)], .cv (.pv (.int .i64 m))] =>
    [(decide (m ≤ 1), cI 0, [sx n l a g]), (srcOk n l a g && decide (m ≤ 200), cI (pickV l a.toNat m), [sx n l (a + 1) (seedK l (a.toNat + 1))])]
  | _ => []
def dab1 : List (FuncId × Entry) := (29, E_pick) :: dab0
/-- One of some texts. -/
def textV (l : List PV) (k : Nat) (t : List PV) : ByteArray := ((t.drop (pickV l k t.length).toNat).headD .nilp).asStr
def wfT (n : Nat) (l : List PV) : Bool := Nat.beq l.length n && l.all PV.isStr && decide (2 ≤ n) && decide (n ≤ 200)
def E_text : Entry := fun ivs => match ivs with
  | [.box 0 [.pv (.sl n l), .pv (.int .i64 a), .pv (.int .u64 g)], .cv (.pv (.sl nt t))] =>
    [(srcOk n l a g && wfT nt t, cS (textV l a.toNat t), [sx n l (a + 1) (seedK l (a.toNat + 1))])]
  | _ => []
def dab2 : List (FuncId × Entry) := (31, E_text) :: dab1
noncomputable def q_text (br : Br) (n : Nat) (l : List PV) (a g : Int) (nt : Nat) (t : List PV) := evB br Tryd.prog dab1 [] LO0 Tryd.f31 [.box 0 (sx n l a g), .cv (.pv (.sl nt t))]
noncomputable def q_piece (br : Br) (n : Nat) (l : List PV) (a g : Int) := evB br Tryd.prog dab2 [] LO0 Tryd.f30 [.box 0 (sx n l a g)]
def pieceL : List PV := [PV.str { data := #[65] }, PV.str { data := #[37, 88] }, PV.str { data := #[97, 98, 49] }, PV.str { data := #[49] }, PV.str { data := #[49, 50, 46, 53] }, PV.str { data := #[46, 53] }, PV.str { data := #[55, 46] }, PV.str { data := #[34, 120, 34] }, PV.str { data := #[34, 97, 34, 34, 98, 34] }, PV.str { data := #[34, 34] }, PV.str { data := #[32] }, PV.str { data := #[32, 32] }, PV.str { data := #[40] }, PV.str { data := #[41] }, PV.str { data := #[44] }, PV.str { data := #[58] }, PV.str { data := #[43] }, PV.str { data := #[45] }, PV.str { data := #[42] }, PV.str { data := #[47] }, PV.str { data := #[92] }, PV.str { data := #[35] }, PV.str { data := #[95] }, PV.str { data := #[61] }, PV.str { data := #[39, 61] }, PV.str { data := #[60] }, PV.str { data := #[62] }, PV.str { data := #[39, 60] }, PV.str { data := #[91] }, PV.str { data := #[93] }, PV.str { data := #[93, 93] }, PV.str { data := #[39, 91] }, PV.str { data := #[39, 93] }, PV.str { data := #[38] }, PV.str { data := #[33] }, PV.str { data := #[39] }, PV.str { data := #[63] }, PV.str { data := #[64] }, PV.str { data := #[94] }, PV.str { data := #[36] }, PV.str { data := #[36, 36] }, PV.str { data := #[46] }, PV.str { data := #[46, 65] }]
def E_piece : Entry := fun ivs => match ivs with
  | [.box 0 [.pv (.sl n l), .pv (.int .i64 a), .pv (.int .u64 g)]] => [(srcOk n l a g, cS (textV l a.toNat pieceL), [sx n l (a + 1) (seedK l (a.toNat + 1))])]
  | _ => []
def dab3 : List (FuncId × Entry) := (30, E_piece) :: dab2
def piecesV (l : List PV) (k : Nat) : Nat → ByteArray
  | 0 => ⟨#[]⟩
  | i + 1 => textV l k pieceL ++ piecesV l (k + 1) i
abbrev aB0 (c : List CV) : AV × Option Ob := (.ptr 0 0, some (.box c))
abbrev lp_line : List (Nat × List Nat × List Nat) := [(3, [0, 3, 4], [0, 3]), (10, [0, 3], [0, 3])]
def padA (t : ByteArray) : ByteArray := t ++ bs (List.replicate (119 - t.size) 97)
def LO_line : LoopT := fun k ls => bif Nat.beq k 3 then (match ls with
    | [(.ptr 0 0, some (.box [.pv (.sl n l), .pv (.int .i64 a), .pv (.int .u64 g)])), (.pv (.str t), none), (.pv (.int .i64 i), none)] =>
      [(srcOk n l a g && decide (0 ≤ i) && decide (a + i ≤ 1048576) && decide (t.size + 10 * i ≤ 1048576), .exit 0, [aB0 (sx n l (a + i) (seedK l (a.toNat + i.toNat))), aS (t ++ piecesV l a.toNat i.toNat)])]
    | _ => []) else (match ls with
    | [(.ptr 0 0, some (.box c)), (.pv (.str t), none)] => [(decide (t.size ≤ 1048576), .exit 3, [aB0 c, aS (padA t)])]
    | _ => [])
noncomputable def r_line1 (br : Br) (n : Nat) (l : List PV) (a g : Int) (t : ByteArray) (i : Int) := rdB br Tryd.prog dab3 lp_line LO_line Tryd.f17 3 [0] [aB0 (sx n l a g), aS t, aI i]
noncomputable def r_line2 (br : Br) (c : List CV) (t : ByteArray) := rdB br Tryd.prog dab3 lp_line LO_line Tryd.f17 10 [0] [aB0 c, aS t]
noncomputable def q_line (br : Br) (n : Nat) (l : List PV) (a g : Int) := evB br Tryd.prog dab3 lp_line LO_line Tryd.f17 [.box 0 (sx n l a g)]
end Go.Proofs.YtjbjgeekglpmlaaDoor
