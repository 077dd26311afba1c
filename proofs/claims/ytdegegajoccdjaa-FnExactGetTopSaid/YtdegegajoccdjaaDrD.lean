/- Draws, by the reckoner: what is stated. -/
import Derived.Test.YtdegegajoccdjaaVxC
namespace Go.Proofs.Ytdegegajoccdjaa
open Go.RowKit
set_option linter.unusedVariables false

/-- A source of draws: the bytes, how many were drawn, the seed. -/
abbrev sx (n : Nat) (l : List PV) (a g : Int) : List CV := [.pv (.sl n l), .pv (.int .i64 a), .pv (.int .u64 g)]
def wfB (n : Nat) (l : List PV) : Bool := Nat.beq l.length n && l.all (fun p => p.isInt .u8 && decide (0 ≤ p.asInt) && decide (p.asInt < 256))
/-- The byte that is read at the k-th draw, and the seed behind it. -/
def byteK (l : List PV) (k : Nat) : Int := if k < l.length then IntKind.wrap .i64 ((l.drop k).headD .nilp).asInt else 0
def seedS (g b : Int) : Int := IntKind.wrap .u64 (IntKind.wrap .u64 (IntKind.wrap .u64 (g * 6364136223846793005) + IntKind.wrap .u64 b) + 1442695040888963407)
def seedK (l : List PV) : Nat → Int
  | 0 => 0
  | k + 1 => seedS (seedK l k) (byteK l k)
/-- The k-th draw. -/
def drawK (l : List PV) (k : Nat) : Int := if k < l.length then byteK l k else IntKind.wrap .i64 (bits .and .u64 ((seedK l (k + 1)).fdiv (2 ^ 40)) 255)
def srcOk (n : Nat) (l : List PV) (a g : Int) : Bool := wfB n l && decide (0 ≤ a) && decide (a ≤ 1048576) && decide (n ≤ 1048577) && (g == seedK l a.toNat)
abbrev sk (n : Nat) (l : List PV) (k : Nat) : List CV := sx n l k (seedK l k)
def E_from : Entry := fun ivs => match ivs with | [.cv (.pv (.sl n l))] => [(true, .box 0 (sx n l 0 0), [])] | _ => []
def E_next : Entry := fun ivs => match ivs with
  | [.box 0 [.pv (.sl n l), .pv (.int .i64 a), .pv (.int .u64 g)]] => [(srcOk n l a g, cI (drawK l a.toNat), [sx n l (a + 1) (seedK l (a.toNat + 1))])]
  | _ => []
def dab0 : List (FuncId × Entry) := [(16, E_from), (52, E_next)]
noncomputable def q_from (br : Br) (n : Nat) (l : List PV) := evB br Try.prog [] [] LO0 Try.f16 [.cv (.pv (.sl n l))]
noncomputable def q_next (br : Br) (n : Nat) (l : List PV) (a g : Int) := evB br Try.prog [] [] LO0 Try.f52 [.box 0 (sx n l a g)]
noncomputable def q_pick (br : Br) (n : Nat) (l : List PV) (a g m : Int) := evB br Try.prog dab0 [] LO0 Try.f32 [.box 0 (sx n l a g), cI m]
/-- A choice out of few. -/
def pickV (l : List PV) (k : Nat) (m : Int) : Int := (drawK l k).tmod m
def E_pick : Entry := fun ivs => match ivs with
  | [.box 0 [.pv (.sl n l), .pv (.int .i64 a), .pv (.int .u64 g)], .cv (.pv (.int .i64 m))] =>
    [(decide (m ≤ 1), cI 0, [sx n l a g]), (srcOk n l a g && decide (m ≤ 200), cI (pickV l a.toNat m), [sx n l (a + 1) (seedK l (a.toNat + 1))])]
  | _ => []
def dab1 : List (FuncId × Entry) := (32, E_pick) :: dab0
/-- One of some texts. -/
def textV (l : List PV) (k : Nat) (t : List PV) : ByteArray := ((t.drop (pickV l k t.length).toNat).headD .nilp).asStr
def wfT (n : Nat) (l : List PV) : Bool := Nat.beq l.length n && l.all PV.isStr && decide (2 ≤ n) && decide (n ≤ 200)
def E_text : Entry := fun ivs => match ivs with
  | [.box 0 [.pv (.sl n l), .pv (.int .i64 a), .pv (.int .u64 g)], .cv (.pv (.sl nt t))] =>
    [(srcOk n l a g && wfT nt t, cS (textV l a.toNat t), [sx n l (a + 1) (seedK l (a.toNat + 1))])]
  | _ => []
def dab2 : List (FuncId × Entry) := (34, E_text) :: dab1
noncomputable def q_text (br : Br) (n : Nat) (l : List PV) (a g : Int) (nt : Nat) (t : List PV) := evB br Try.prog dab1 [] LO0 Try.f34 [.box 0 (sx n l a g), .cv (.pv (.sl nt t))]
/-- Yes once in so many times; one of some numbers; a text of few bytes. -/
def E_one : Entry := fun ivs => match ivs with
  | [.box 0 [.pv (.sl n l), .pv (.int .i64 a), .pv (.int .u64 g)], .cv (.pv (.int .i64 m))] => [(srcOk n l a g && decide (m ≤ 200) && decide (2 ≤ m), cB (pickV l a.toNat m == 0), [sx n l (a + 1) (seedK l (a.toNat + 1))])]
  | _ => []
noncomputable def q_one (br : Br) (n : Nat) (l : List PV) (a g m : Int) := evB br Try.prog dab1 [] LO0 Try.f35 [.box 0 (sx n l a g), cI m]
def amongV (l : List PV) (k : Nat) (t : List PV) : Int := ((t.drop (pickV l k t.length).toNat).headD .nilp).asInt
def wfI (n : Nat) (l : List PV) : Bool := Nat.beq l.length n && l.all (PV.isInt .i64) && decide (2 ≤ n) && decide (n ≤ 200)
def E_among : Entry := fun ivs => match ivs with
  | [.box 0 [.pv (.sl n l), .pv (.int .i64 a), .pv (.int .u64 g)], .cv (.pv (.sl nt t))] => [(srcOk n l a g && wfI nt t, cI (amongV l a.toNat t), [sx n l (a + 1) (seedK l (a.toNat + 1))])]
  | _ => []
noncomputable def q_among (br : Br) (n : Nat) (l : List PV) (a g : Int) (nt : Nat) (t : List PV) := evB br Try.prog dab1 [] LO0 Try.f33 [.box 0 (sx n l a g), cP (.sl nt t)]
def wordV (l : List PV) (k : Nat) : Nat → List UInt8
  | 0 => []
  | i + 1 => UInt8.ofNat (drawK l k).toNat :: wordV l (k + 1) i
abbrev lp_word : List (Nat × List Nat × List Nat) := [(3, [0, 5, 6], [0, 5])]
abbrev aB0 (c : List CV) : AV × Option Ob := (.ptr 0 0, some (.box c))
def LO_word : LoopT := fun _ ls => match ls with
  | [(.ptr 0 0, some (.box [.pv (.sl n l), .pv (.int .i64 a), .pv (.int .u64 g)])), (.own x, some (.lst 1 e cn cl false)), (.pv (.int .i64 i), none)] =>
    [(srcOk n l a g && decide (0 ≤ i) && decide (i ≤ 1000) && decide (a ≤ 1000000) && Nat.beq e 5 && Nat.beq x 20480 && Nat.beq cn 0, .exit 0, [aB0 (sx n l (a + i) (seedK l (a.toNat + i.toNat))), aL 5 1 5 i.toNat ((wordV l a.toNat i.toNat).map byteP)])]
  | _ => []
def E_word : Entry := fun ivs => match ivs with
  | [.box 0 [.pv (.sl n l), .pv (.int .i64 a), .pv (.int .u64 g)], .cv (.pv (.int .i64 m))] => [(srcOk n l a g && decide (m ≤ 200) && decide (2 ≤ m) && decide (a ≤ 900000), cS (bs (wordV l (a.toNat + 1) (pickV l a.toNat m).toNat)), [sx n l (a + 1 + pickV l a.toNat m) (seedK l (a.toNat + 1 + (pickV l a.toNat m).toNat))])]
  | _ => []
end Go.Proofs.Ytdegegajoccdjaa
