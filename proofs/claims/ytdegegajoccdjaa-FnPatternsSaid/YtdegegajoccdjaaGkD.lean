/- Patterns: draws, by the reckoner: what is stated. -/
import Derived.Test.YtdegegajoccdjaaGjP
import Derived.Test.YtdegegajoccdjaaDrP
namespace Go.Proofs.Ytdegegajoccdjaa
open Go.RowKit
set_option linter.unusedVariables false
set_option linter.unusedSimpArgs false

def txT : List PV := [.str ⟨#[97]⟩, .str ⟨#[45]⟩, .str ⟨#[97, 98]⟩, .str ⟨#[34]⟩, .str ⟨#[120, 34, 121]⟩]
def coT : List PV := [.str ⟨#[65]⟩, .str ⟨#[78]⟩, .str ⟨#[69]⟩, .str ⟨#[76]⟩, .str ⟨#[85]⟩, .str ⟨#[80]⟩, .str ⟨#[67]⟩, .str ⟨#[65, 78]⟩, .str ⟨#[76, 78]⟩, .str ⟨#[78, 85]⟩]
def loT : List PV := [.int .i64 0, .int .i64 1, .int .i64 1, .int .i64 2]
abbrev hiT (lo : Int) : List PV := [.int .i64 (-1), .int .i64 lo, .int .i64 lo, .int .i64 (IntKind.wrap .i64 (lo + 1)), .int .i64 (IntKind.wrap .i64 (lo + 2))]
def loV (l : List PV) (k : Nat) : Int := amongV l k loT
def hiV (l : List PV) (k : Nat) : Int := amongV l (k + 1) (hiT (loV l k))
def dAlts (rec : Nat → List PatT × Nat) : Nat → Nat → List (List PatT) × Nat
  | 0, k => ([], k)
  | c + 1, k => ((rec k).1 :: (dAlts rec c (rec k).2).1, (dAlts rec c (rec k).2).2)
def dMany (one : Nat → PatT × Nat) : Nat → Nat → List PatT × Nat
  | 0, k => ([], k)
  | c + 1, k => ((one k).1 :: (dMany one c (one k).2).1, (dMany one c (one k).2).2)
def dOne (l : List PV) (deep : Bool) (rec : Nat → List PatT × Nat) (k : Nat) : PatT × Nat :=
  bif pickV l (k + 1 + 1) 5 == 0 then (.mk (loV l k) (hiV l k) ⟨#[]⟩ (textV l (k + 1 + 1 + 1) txT) [], k + 1 + 1 + 1 + 1)
  else bif pickV l (k + 1 + 1) 5 == 1 then (bif deep then (.mk (loV l k) (hiV l k) ⟨#[]⟩ ⟨#[]⟩ (dAlts rec (1 + pickV l (k + 1 + 1 + 1) 2).toNat (k + 1 + 1 + 1 + 1)).1, (dAlts rec (1 + pickV l (k + 1 + 1 + 1) 2).toNat (k + 1 + 1 + 1 + 1)).2) else (.mk (loV l k) (hiV l k) ⟨#[78]⟩ ⟨#[]⟩ [], k + 1 + 1 + 1))
  else (.mk (loV l k) (hiV l k) (textV l (k + 1 + 1 + 1) coT) ⟨#[]⟩ [], k + 1 + 1 + 1 + 1)
def drawP (l : List PV) : Nat → Nat → List PatT × Nat
  | 0, k => dMany (dOne l false fun k => ([], k)) (1 + pickV l k 3).toNat (k + 1)
  | d + 1, k => dMany (dOne l true (drawP l d)) (1 + pickV l k 3).toNat (k + 1)
def oneP (l : List PV) : Nat → Nat → PatT × Nat
  | 0 => dOne l false fun k => ([], k)
  | d + 1 => dOne l true (drawP l d)
noncomputable def manyW (l : List PV) (f c k : Nat) : List PatT × Nat := dMany (oneP l f) c k
noncomputable def altsW (l : List PV) (f c k : Nat) : List (List PatT) × Nat := dAlts (drawP l (f - 1)) c k
noncomputable def drawW (l : List PV) (f k : Nat) : List PatT × Nat := drawP l f k
abbrev lPt (b : Bool) (t : List PatT) : CV := .lst 5 29 t.length (encPt t) b
abbrev lAl (t : List (List PatT)) : CV := .lst 1 23 t.length (encAl t) false
abbrev oPt (slot : Nat) (t : List PatT) : AV × Option Ob := (.own (4096 * slot), some (.lst 5 29 t.length (encPt t) false))
noncomputable def E_drawX (f : Nat) : Entry := fun ivs => match ivs with
  | [.box 0 [.pv (.sl n l), .pv (.int .i64 a), .pv (.int .u64 g)], .cv (.pv (.int .i64 k))] =>
    [(decide (0 < f) && srcOk n l a g && (k == (f : Int) - 1) && decide (a ≤ 910000 - 10000 * (f : Int)), .cv (lPt false (drawW l (f - 1) a.toNat).1), [sk n l (drawW l (f - 1) a.toNat).2])]
  | _ => []
noncomputable def E_draw (f : Nat) : Entry := fun ivs => match ivs with
  | [.box 0 [.pv (.sl n l), .pv (.int .i64 a), .pv (.int .u64 g)], .cv (.pv (.int .i64 k))] =>
    [(decide (f ≤ 2) && srcOk n l a g && (k == (f : Int)) && decide (a ≤ 900000 - 10000 * (f : Int)), .cv (lPt false (drawW l f a.toNat).1), [sk n l (drawW l f a.toNat).2])]
  | _ => []
noncomputable def gkb0 (f : Nat) : List (FuncId × Entry) := (15, E_drawX f) :: dab5
abbrev lp_draw : List (Nat × List Nat × List Nat) := [(3, [0, 1, 5, 6], [0, 5]), (14, [0, 1, 5, 6, 7, 8], [0, 1, 5, 6, 7]), (2000058, [7, 4, 59], [])]
noncomputable def LO_draw (f : Nat) : LoopT := fun key ls => match key with
  | 3 => (match ls with
    | [(.ptr 0 0, some (.box [.pv (.sl n l), .pv (.int .i64 a), .pv (.int .u64 g)])), (.pv (.int .i64 k), none), (.own x, some (.lst 5 e m c false)), (.pv (.int .i64 i), none)] =>
      [(decide (f ≤ 2) && srcOk n l a g && (k == (f : Int)) && decide (a ≤ 901000 - 10000 * (f : Int)) && Nat.beq x 20480 && Nat.beq e 29 && Nat.beq m 0 && nilB c && decide (0 ≤ i) && decide (i ≤ 3), .exit 0, [aB0 (sk n l (manyW l f i.toNat a.toNat).2), oPt 5 (manyW l f i.toNat a.toNat).1])]
    | _ => [])
  | 14 => (match ls with
    | [(.ptr 0 0, some (.box [.pv (.sl n l), .pv (.int .i64 a), .pv (.int .u64 g)])), (.pv (.int .i64 k), none), (.own x, some (.lst 5 e m c false)), (.pv (.int .i64 i), none), (.ptr y 0, some (.box [.pv (.int .i64 lo), .pv (.int .i64 hi), .pv (.str co), .pv (.str tx), .pv .nils])), (.pv (.int .i64 j), none)] =>
      [(decide (f ≤ 2) && decide (0 < f) && srcOk n l a g && (k == (f : Int)) && decide (a ≤ 902000 - 10000 * (f : Int)) && Nat.beq x 20480 && Nat.beq y 28672 && decide (1 ≤ j) && decide (j ≤ 2), .exit 3, [aB0 (sk n l (altsW l f j.toNat a.toNat).2), aI k, (.own 20480, some (.lst 5 e m c false)), aI i, aBx 7 [.pv (.int .i64 lo), .pv (.int .i64 hi), .pv (.str co), .pv (.str tx), lAl (altsW l f j.toNat a.toNat).1]])]
    | _ => [])
  | _ => []
noncomputable def r_draw (br : Br) (f n : Nat) (l : List PV) (a g : Int) (c : List PatT) (i : Int) := rdB br Try.prog (gkb0 f) lp_draw (LO_draw f) Try.f15 3 [0] [aB0 (sx n l a g), aI f, oPt 5 c, aI i]
noncomputable def r_drawA (br : Br) (f n : Nat) (l : List PV) (a g : Int) (e m : Nat) (c : List PV) (i lo hi : Int) (co tx : ByteArray) (j : Int) := rdB br Try.prog (gkb0 f) lp_draw (LO_draw f) Try.f15 14 [0] [aB0 (sx n l a g), aI f, ((.own 20480, some (.lst 5 e m c false)) : AV × Option Ob), aI i, aBx 7 [.pv (.int .i64 lo), .pv (.int .i64 hi), .pv (.str co), .pv (.str tx), .pv .nils], aI j]
noncomputable def r_drawB (br : Br) (f n : Nat) (l : List PV) (a g : Int) (e m : Nat) (c : List PV) (i lo hi : Int) (co tx : ByteArray) (al : List (List PatT)) (j : Int) := rdB br Try.prog (gkb0 f) lp_draw (LO_draw f) Try.f15 14 [0] [aB0 (sx n l a g), aI f, ((.own 20480, some (.lst 5 e m c false)) : AV × Option Ob), aI i, aBx 7 [.pv (.int .i64 lo), .pv (.int .i64 hi), .pv (.str co), .pv (.str tx), lAl al], aI j]
noncomputable def q_draw (br : Br) (f n : Nat) (l : List PV) (a g : Int) := evB br Try.prog (gkb0 f) lp_draw (LO_draw f) Try.f15 [.box 0 (sx n l a g), cI f]
end Go.Proofs.Ytdegegajoccdjaa
