/- Patterns: subjects, the law, by the reckoner: what is stated. -/
import Derived.Test.YtdegegajoccdjaaGkP
namespace Go.Proofs.Ytdegegajoccdjaa
open Go.RowKit
set_option linter.unusedVariables false
set_option linter.unusedSimpArgs false

noncomputable def glb0 : List (FuncId × Entry) := (15, E_draw 2) :: dab0
noncomputable def q_A8Pat (br : Br) (n : Nat) (l : List PV) := evB br Try.prog glb0 [] LO0 Try.f5 [cP (.sl n l)]
theorem patV_ex (l : List PV) : ∃ x, x = (drawW l 2 0).1 := ⟨_, rfl⟩
noncomputable def patV (l : List PV) : List PatT := Classical.choose (patV_ex l)
theorem patV_eq (l : List PV) : patV l = (drawW l 2 0).1 := Classical.choose_spec (patV_ex l)
noncomputable def E_A8Pat : Entry := fun ivs => match ivs with
  | [.cv (.pv (.sl n l))] => [(wfB n l && decide (n ≤ 1048577), .cv (lPt false (patV l)), [])]
  | _ => []
def suT : List PV := [.str ⟨#[97]⟩, .str ⟨#[98]⟩, .str ⟨#[49]⟩, .str ⟨#[50]⟩, .str ⟨#[45]⟩, .str ⟨#[65]⟩, .str ⟨#[32]⟩, .str ⟨#[0]⟩, .str ⟨#[97, 98]⟩, .str ⟨#[34]⟩]
def subW (l : List PV) : Nat → Nat → ByteArray → ByteArray
  | 0, _, t => t
  | c + 1, k, t => subW l c (k + 1) (t ++ textV l k suT)
abbrev lp_sub : List (Nat × List Nat × List Nat) := [(3, [0, 3, 4], [0, 3])]
noncomputable def LO_sub : LoopT := fun _ ls => match ls with
  | [(.ptr 0 0, some (.box [.pv (.sl n l), .pv (.int .i64 a), .pv (.int .u64 g)])), (.pv (.str t), none), (.pv (.int .i64 i), none)] =>
    [(srcOk n l a g && decide (a ≤ 1000000) && decide (0 ≤ i) && decide (i ≤ 6) && decide (t.size ≤ 100), .exit 0, [aB0 (sk n l (a.toNat + i.toNat)), aS (subW l i.toNat a.toNat t)])]
  | _ => []
noncomputable def r_sub (br : Br) (n : Nat) (l : List PV) (a g : Int) (t : ByteArray) (i : Int) := rdB br Try.prog dab5 lp_sub LO_sub Try.f17 3 [0] [aB0 (sx n l a g), aS t, aI i]
noncomputable def q_sub (br : Br) (n : Nat) (l : List PV) (a g : Int) := evB br Try.prog dab5 lp_sub LO_sub Try.f17 [.box 0 (sx n l a g)]
noncomputable abbrev subjV (n : Nat) (l : List PV) (k : Nat) : ByteArray × Nat := drawV (fun n l k => q_sub brC n l k (seedK l k)) (fun s : ByteArray => cS s) (fun s : ByteArray => s.size ≤ 1000000) 20 n l k
noncomputable def E_sub : Entry := fun ivs => match ivs with
  | [.box 0 [.pv (.sl n l), .pv (.int .i64 a), .pv (.int .u64 g)]] => [(srcOk n l a g && decide (a ≤ 900000), cS (subjV n l a.toNat).1, [sk n l (subjV n l a.toNat).2])]
  | _ => []
noncomputable def glb1 : List (FuncId × Entry) := (17, E_sub) :: dab0
noncomputable def q_A8Sub (br : Br) (n : Nat) (l : List PV) := evB br Try.prog glb1 [] LO0 Try.f7 [cP (.sl n l)]
noncomputable def suV (n : Nat) (l : List PV) : ByteArray := (subjV n l 0).1
noncomputable def E_A8Sub : Entry := fun ivs => match ivs with
  | [.cv (.pv (.sl n l))] => [(wfB n l && decide (n ≤ 1048577), cS (suV n l), [])]
  | _ => []
noncomputable def q_mix (br : Br) (n : Nat) (l : List PV) := evB br Try.prog [] [] LO0 Try.f6 [cI 1, cP (.sl n l)]
def E_mix : Entry := fun ivs => match ivs with
  | [.cv (.pv (.int .i64 i)), .cv (.pv (.sl n l))] => [(wfB n l && decide (n ≤ 1048576) && (i == 1), .cv (.lst 1 5 (n + 1) (byteP 1 :: l) false), [])]
  | _ => []
noncomputable def glb2 : List (FuncId × Entry) := (5, E_A8Pat) :: (7, E_A8Sub) :: (6, E_mix) :: (8, E_MatchPattern) :: (9, E_PatternOk) :: []
noncomputable def q_law (br : Br) (n : Nat) (l : List PV) := evB br Try.prog glb2 [] LO0 Try.f3 [cP (.sl n l)]
end Go.Proofs.Ytdegegajoccdjaa
