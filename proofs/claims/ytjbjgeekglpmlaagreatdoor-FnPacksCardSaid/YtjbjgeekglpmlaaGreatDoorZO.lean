/- Tables and rows that are drawn, by the reckoner: what is stated.
Trees (printed by vx/trees.sh; numbers of one seat).
Tables and rows that are drawn, by the reckoner: proofs.
The law of rows and their values, by the reckoner: what is stated.
Trees (printed by vx/trees.sh; numbers of one seat).
The law of rows and their values, by the reckoner: proofs.
A law's arguments and the package variables, opened for the reckoner.
The walk of the law FnPacks, by the reckoner. -/
import Derived.Test.YtjbjgeekglpmlaaGreatDoorZN
import Derived.Test.YtjbjgeekglpmlaaGreatDoorVx3
import Derived.Test.YtjbjgeekglpmlaaGreatDoorZW
import Derived.ChangeSlices
import Derived.WideShapes
import Derived.OpenShut
namespace Go.Proofs.YtjbjgeekglpmlaaGreatDoor
section
open Go.RowKit
set_option linter.unusedVariables false

noncomputable def peb0 : List (FuncId × Entry) := (59, E_one) :: (60, E_text) :: dab1
noncomputable def q_Key29 (br : Br) (n : Nat) (l : List PV) (a g : Int) := evB br Tryz.prog peb0 [] LO0 Tryz.f167 [.box 0 (sx n l a g)]
abbrev key29 : List PV := [PV.str { data := #[49] }, PV.str { data := #[50] }, PV.str { data := #[49, 48] }, PV.str { data := #[97] }, PV.str { data := #[51] }, PV.str { data := #[98, 55] }]
noncomputable def E_Key29 : Entry := fun ivs => match ivs with
  | [.box 0 [.pv (.sl n l), .pv (.int .i64 a), .pv (.int .u64 g)]] => [(srcOk n l a g, cS (textV l a.toNat key29), [sx n l (a + 1) (seedK l (a.toNat + 1))])]
  | _ => []
noncomputable def q_Tab29 (br : Br) (n : Nat) (l : List PV) (a g : Int) := evB br Tryz.prog peb0 [(1000000, [], [25])] LO0 Tryz.f102 [.box 0 (sx n l a g)]
noncomputable def tbEnc (b : TblT) : IV := .agg [.pv (.str b.name), .pv (.str b.glob), .lst 1 9 b.cols.length (b.cols.map .str) false, .lst 1 9 b.idxs.length (b.idxs.map .str) false]
def few20 (xs : List ByteArray) (m : Nat) : Prop := xs.length ≤ m ∧ ∀ x ∈ xs, x.size ≤ 20
def tbR (b : TblT) : Prop := b.name.size ≤ 20 ∧ b.glob.size ≤ 20 ∧ few20 b.cols 5 ∧ few20 b.idxs 5
noncomputable abbrev tab29V (n : Nat) (l : List PV) (k : Nat) : TblT × Nat := drawV (fun n l k => q_Tab29 brC n l k (seedK l k)) tbEnc tbR 10 n l k
noncomputable def E_Tab29 : Entry := fun ivs => match ivs with
  | [.box 0 [.pv (.sl n l), .pv (.int .i64 a), .pv (.int .u64 g)]] => [(srcOk n l a g && decide (a ≤ 400000), tbEnc (tab29V n l a.toNat).1, [sk n l (tab29V n l a.toNat).2])]
  | _ => []
noncomputable def peb1 : List (FuncId × Entry) := (102, E_Tab29) :: (167, E_Key29) :: peb0
noncomputable def q_AnyTab (br : Br) (n : Nat) (l : List PV) (a g : Int) := evB br Tryz.prog peb1 [(1000000, [], [11, 21])] LO0 Tryz.f50 [.box 0 (sx n l a g)]
noncomputable def tpEnc (b : TblT) : IV := .agg [.pv (.str b.name), .pv (.str b.glob), .pv (pL b.cols), .pv (pL b.idxs)]
def tpR (b : TblT) : Prop := b.name.size ≤ 20 ∧ b.glob.size ≤ 20 ∧ few20 b.cols 6 ∧ few20 b.idxs 6
noncomputable abbrev anyTabV (n : Nat) (l : List PV) (k : Nat) : TblT × Nat := drawV (fun n l k => q_AnyTab brC n l k (seedK l k)) tpEnc tpR 20 n l k
noncomputable def E_AnyTab : Entry := fun ivs => match ivs with
  | [.box 0 [.pv (.sl n l), .pv (.int .i64 a), .pv (.int .u64 g)]] => [(srcOk n l a g && decide (a ≤ 300000), tpEnc (anyTabV n l a.toNat).1, [sk n l (anyTabV n l a.toNat).2])]
  | _ => []
/-! Rows. -/
abbrev cell29 : List PV := [PV.str { data := #[] }, PV.str { data := #[97, 110, 110] }, PV.str { data := #[98, 111, 98] }, PV.str { data := #[51] }, PV.str { data := #[49, 50] }, PV.str { data := #[120, 32, 121] }]
def drK (l : List PV) : Nat → Nat → List ByteArray
  | 0, _ => []
  | m + 1, k => textV l k cell29 :: drK l m (k + 1)
abbrev lp_DrawRow : List (Nat × List Nat × List Nat) := [(3, [0, 3, 4, 5, 6], [0, 4, 5]), (1000000, [9], [19, 26])]
noncomputable def LO_DrawRow : LoopT := fun _ ls => match ls with
  | [(.ptr 0 0, some (.box [.pv (.sl n l), .pv (.int .i64 a), .pv (.int .u64 g)])), (.ptr x 0, some (.box [.pv (.str s), .pv (.str h), .pv p, .pv q])), (.ptr y 0, some (.box [.pv .nils])), (.ptr z 0, some (.box [.lst 1 e cn cl true])), (.pv (.int .i64 i), none)] =>
    [(srcOk n l a g && isL p && Nat.beq x 12288 && Nat.beq y 16384 && Nat.beq z 20480 && Nat.beq e 9 && Nat.beq cn 1 && (i == 1) && decide ((asL p).length ≤ 10) && decide (a ≤ 1000000), .exit 0,
      [aB0 (sx n l (a + ((asL p).length - 1 : Nat)) (seedK l (a.toNat + ((asL p).length - 1)))), aBx 4 [.pv .nils], aBx 5 [.lst 1 9 (1 + ((asL p).length - 1)) (cl ++ (drK l ((asL p).length - 1) a.toNat).map .str) true]])]
  | _ => []
noncomputable def r_DrawRow (br : Br) (n : Nat) (l : List PV) (a g : Int) (s h : ByteArray) (xs : List ByteArray) (q : PV) (cn : Nat) (cl : List PV) (i : Int) := rdB br Tryz.prog peb1 lp_DrawRow LO_DrawRow Tryz.f103 3 [0] [aB0 (sx n l a g), aBx 3 [.pv (.str s), .pv (.str h), .pv (pL xs), .pv q], aBx 4 [.pv .nils], aBx 5 [.lst 1 9 cn cl true], aI i]
noncomputable def q_DrawRow (br : Br) (n : Nat) (l : List PV) (a g : Int) (b : TblT) := evB br Tryz.prog peb1 lp_DrawRow LO_DrawRow Tryz.f103 [.box 0 (sx n l a g), cP (pTb b)]
noncomputable def rowD (l : List PV) (k m : Nat) : List ByteArray := @Classical.epsilon _ ⟨[]⟩ fun x : List ByteArray => x = textV l k key29 :: drK l m (k + 1)
theorem rowD_eq (l : List PV) (k m : Nat) : rowD l k m = textV l k key29 :: drK l m (k + 1) := @Classical.epsilon_spec _ (fun x : List ByteArray => x = textV l k key29 :: drK l m (k + 1)) ⟨_, rfl⟩
noncomputable def E_DrawRow : Entry := fun ivs => match ivs with
  | [.box 0 [.pv (.sl n l), .pv (.int .i64 a), .pv (.int .u64 g)], .cv (.pv p)] =>
    [(srcOk n l a g && isTb p && decide ((asTb p).cols.length ≤ 10) && decide (a ≤ 400000), .agg [.lst 1 9 (rowD l a.toNat ((asTb p).cols.length - 1)).length ((rowD l a.toNat ((asTb p).cols.length - 1)).map .str) true], [sk n l (a.toNat + 1 + ((asTb p).cols.length - 1))])]
  | _ => []
noncomputable def peb2 : List (FuncId × Entry) := (103, E_DrawRow) :: peb1
noncomputable def q_AnyRow (br : Br) (n : Nat) (l : List PV) (a g : Int) (b : TblT) := evB br Tryz.prog peb2 [(1000000, [], [14, 31]), (2000020, [5, 0, 21], [])] LO0 Tryz.f51 [.box 0 (sx n l a g), cP (pTb b)]
noncomputable def arEnc (cs : List ByteArray) : IV := .agg [.lst 1 9 cs.length (cs.map .str) true]
def arR (cs : List ByteArray) : Prop := 1 ≤ cs.length ∧ few20 cs 12
noncomputable abbrev anyRowV (b : TblT) (n : Nat) (l : List PV) (k : Nat) : List ByteArray × Nat := drawV (fun n l k => q_AnyRow brC n l k (seedK l k) b) arEnc arR 20 n l k
noncomputable def E_AnyRow : Entry := fun ivs => match ivs with
  | [.box 0 [.pv (.sl n l), .pv (.int .i64 a), .pv (.int .u64 g)], .cv (.pv p)] =>
    [(srcOk n l a g && isTb p && decide ((asTb p).cols.length ≤ 10) && decide (a ≤ 300000), .agg [.pv (pL (anyRowV (asTb p) n l a.toNat).1)], [sk n l (anyRowV (asTb p) n l a.toNat).2])]
  | _ => []
/-! Packing. -/
def pkF (cs : List ByteArray) : Nat → Nat → ByteArray → ByteArray
  | 0, _, t => t
  | m + 1, i, t => pkF cs m (i + 1) ((if 1 < i then t ++ ⟨#[94]⟩ else t) ++ cs.getD i ⟨#[]⟩)
def allS (cs : List ByteArray) : Bool := cs.all fun x => decide (x.size ≤ 20)
abbrev lp_Pk : List (Nat × List Nat × List Nat) := [(3, [1, 3, 4], [3])]
noncomputable def LO_Pk : LoopT := fun _ ls => match ls with
  | [(.ptr x 0, some (.box [.pv p])), (.pv (.str t), none), (.pv (.int .i64 i), none)] =>
    [(isL p && Nat.beq x 4096 && (i == 1) && decide (t.size ≤ 0) && decide ((asL p).length ≤ 12) && allS (asL p), .exit 0, [aS (pkF (asL p) ((asL p).length - 1) 1 t)])]
  | _ => []
noncomputable def r_Pk (br : Br) (cs : List ByteArray) (t : ByteArray) (i : Int) := rdB br Tryz.prog [] lp_Pk LO_Pk Tryz.f58 3 [] [aBx 1 [.pv (pL cs)], aS t, aI i]
noncomputable def q_Pk (br : Br) (cs : List ByteArray) := evB br Tryz.prog [] lp_Pk LO_Pk Tryz.f58 [cP (pRw cs)]
noncomputable def E_Pk : Entry := fun ivs => match ivs with
  | [.cv (.pv q)] => [(isRw q && decide ((asRw q).length ≤ 12) && allS (asRw q), cS (pkF (asRw q) ((asRw q).length - 1) 1 ⟨#[]⟩), [])]
  | _ => []
/-! What the law draws. -/
noncomputable def peb3 : List (FuncId × Entry) := (50, E_AnyTab) :: (51, E_AnyRow) :: (58, E_Pk) :: peb0
noncomputable def q_DPR (br : Br) (n : Nat) (l : List PV) := evB br Tryz.prog peb3 [] LO0 Tryz.f11 [cP (.sl n l)]
noncomputable abbrev dpT (n : Nat) (l : List PV) : TblT := (anyTabV n l 0).1
noncomputable abbrev dpC (n : Nat) (l : List PV) : List ByteArray := (anyRowV (dpT n l) n l (anyTabV n l 0).2).1
noncomputable def E_DPR : Entry := fun ivs => match ivs with
  | [.cv (.pv (.sl n l))] => [(wfB n l && decide (n ≤ 1048577), .tup [tpEnc (dpT n l), .agg [.pv (pL (dpC n l))]], [])]
  | _ => []
noncomputable def q_DUR (br : Br) (n : Nat) (l : List PV) := evB br Tryz.prog peb3 [] LO0 Tryz.f15 [cP (.sl n l)]
abbrev end29 : List PV := [PV.str { data := #[94] }, PV.str { data := #[120] }, PV.str { data := #[10] }]
noncomputable def duK (n : Nat) (l : List PV) : Nat := (anyRowV (dpT n l) n l (anyTabV n l 0).2).2
noncomputable def duV (n : Nat) (l : List PV) : ByteArray := if (pickV l (duK n l) 5 == 0) = true then pkF (dpC n l) ((dpC n l).length - 1) 1 ⟨#[]⟩ ++ textV l (duK n l + 1) end29 else pkF (dpC n l) ((dpC n l).length - 1) 1 ⟨#[]⟩
noncomputable def E_DUR : Entry := fun ivs => match ivs with
  | [.cv (.pv (.sl n l))] => [(wfB n l && decide (n ≤ 1048577), .tup [tpEnc (dpT n l), cS ((dpC n l).headD ⟨#[]⟩), cS (duV n l)], [])]
  | _ => []
end

section
set_option linter.unusedVariables false
set_option maxRecDepth 100000
theorem q_DPR_eq (n : Nat) (l : List PV) : q_DPR brC n l =
 brC (srcOk n l 0 0 && decide (0 ≤ 300000))
  (brC (srcOk n l (↑(Prod.snd (anyTabV n l 0)) : Int) (seedK l (Prod.snd (anyTabV n l 0))) && isTb (PV.agg [PV.str (TblT.name (Prod.fst (anyTabV n l 0))), PV.str (TblT.glob (Prod.fst (anyTabV n l 0))), PV.sl (List.length (TblT.cols (Prod.fst (anyTabV n l 0)))) (List.map PV.str (TblT.cols (Prod.fst (anyTabV n l 0)))), PV.sl (List.length (TblT.idxs (Prod.fst (anyTabV n l 0)))) (List.map PV.str (TblT.idxs (Prod.fst (anyTabV n l 0))))]) && decide (List.length (TblT.cols (asTb (PV.agg [PV.str (TblT.name (Prod.fst (anyTabV n l 0))), PV.str (TblT.glob (Prod.fst (anyTabV n l 0))), PV.sl (List.length (TblT.cols (Prod.fst (anyTabV n l 0)))) (List.map PV.str (TblT.cols (Prod.fst (anyTabV n l 0)))), PV.sl (List.length (TblT.idxs (Prod.fst (anyTabV n l 0)))) (List.map PV.str (TblT.idxs (Prod.fst (anyTabV n l 0))))]))) ≤ 10) && decide ((↑(Prod.snd (anyTabV n l 0)) : Int) ≤ 300000))
    (some ((IV.tup [IV.agg [CV.pv (PV.str (TblT.name (Prod.fst (anyTabV n l 0)))), CV.pv (PV.str (TblT.glob (Prod.fst (anyTabV n l 0)))), CV.pv (PV.sl (List.length (TblT.cols (Prod.fst (anyTabV n l 0)))) (List.map PV.str (TblT.cols (Prod.fst (anyTabV n l 0))))), CV.pv (PV.sl (List.length (TblT.idxs (Prod.fst (anyTabV n l 0)))) (List.map PV.str (TblT.idxs (Prod.fst (anyTabV n l 0)))))], IV.agg [CV.pv (PV.sl (List.length (Prod.fst (anyRowV (asTb (PV.agg [PV.str (TblT.name (Prod.fst (anyTabV n l 0))), PV.str (TblT.glob (Prod.fst (anyTabV n l 0))), PV.sl (List.length (TblT.cols (Prod.fst (anyTabV n l 0)))) (List.map PV.str (TblT.cols (Prod.fst (anyTabV n l 0)))), PV.sl (List.length (TblT.idxs (Prod.fst (anyTabV n l 0)))) (List.map PV.str (TblT.idxs (Prod.fst (anyTabV n l 0))))])) n l (Int.toNat (↑(Prod.snd (anyTabV n l 0)) : Int))))) (List.map PV.str (Prod.fst (anyRowV (asTb (PV.agg [PV.str (TblT.name (Prod.fst (anyTabV n l 0))), PV.str (TblT.glob (Prod.fst (anyTabV n l 0))), PV.sl (List.length (TblT.cols (Prod.fst (anyTabV n l 0)))) (List.map PV.str (TblT.cols (Prod.fst (anyTabV n l 0)))), PV.sl (List.length (TblT.idxs (Prod.fst (anyTabV n l 0)))) (List.map PV.str (TblT.idxs (Prod.fst (anyTabV n l 0))))])) n l (Int.toNat (↑(Prod.snd (anyTabV n l 0)) : Int))))))]], [])))
    (none))
  (none) := by kernel_rfl
theorem q_Tab29_eq (n : Nat) (l : List PV) (a : Int) (g : Int) : q_Tab29 brC n l a g =
 brC (srcOk n l a g && decide (4 ≤ 200))
  (brC (pickV l (Int.toNat a) 4 == 0)
    (some ((IV.agg [CV.pv (PV.str { data := #[87, 65, 82, 68] }), CV.pv (PV.str { data := #[87] }), CV.lst 1 9 4 [PV.str { data := #[105, 100] }, PV.str { data := #[110, 97, 109, 101] }, PV.str { data := #[98, 101, 100] }, PV.str { data := #[100, 114] }] false, CV.lst 1 9 2 [PV.str { data := #[98, 101, 100] }, PV.str { data := #[100, 114] }] false], [[CV.pv (PV.sl n l), CV.pv (PV.int IntKind.i64 (a + 1)), CV.pv (PV.int IntKind.u64 (seedK l (Int.toNat a + 1)))]])))
    (brC (pickV l (Int.toNat a) 4 == 1)
      (some ((IV.agg [CV.pv (PV.str { data := #[87, 65, 82, 68] }), CV.pv (PV.str { data := #[87] }), CV.lst 1 9 1 [PV.str { data := #[105, 100] }] false, CV.lst 1 9 0 [] false], [[CV.pv (PV.sl n l), CV.pv (PV.int IntKind.i64 (a + 1)), CV.pv (PV.int IntKind.u64 (seedK l (Int.toNat a + 1)))]])))
      (brC (pickV l (Int.toNat a) 4 == 2)
        (some ((IV.agg [CV.pv (PV.str { data := #[87, 65, 82, 68] }), CV.pv (PV.str { data := #[87] }), CV.lst 1 9 2 [PV.str { data := #[105, 100] }, PV.str { data := #[110, 97, 109, 101] }] false, CV.lst 1 9 1 [PV.str { data := #[110, 97, 109, 101] }] false], [[CV.pv (PV.sl n l), CV.pv (PV.int IntKind.i64 (a + 1)), CV.pv (PV.int IntKind.u64 (seedK l (Int.toNat a + 1)))]])))
        (some ((IV.agg [CV.pv (PV.str { data := #[87, 65, 82, 68] }), CV.pv (PV.str { data := #[87] }), CV.lst 1 9 4 [PV.str { data := #[105, 100] }, PV.str { data := #[110, 97, 109, 101] }, PV.str { data := #[98, 101, 100] }, PV.str { data := #[100, 114] }] false, CV.lst 1 9 1 [PV.str { data := #[110, 97, 109, 101] }] false], [[CV.pv (PV.sl n l), CV.pv (PV.int IntKind.i64 (a + 1)), CV.pv (PV.int IntKind.u64 (seedK l (Int.toNat a + 1)))]]))))))
  (none) := by kernel_rfl
theorem q_AnyRow_eq (n : Nat) (l : List PV) (a : Int) (g : Int) (b : TblT) : q_AnyRow brC n l a g b =
 brC (srcOk n l a g && isTb (PV.agg [PV.str (TblT.name b), PV.str (TblT.glob b), PV.sl (List.length (TblT.cols b)) (List.map PV.str (TblT.cols b)), PV.sl (List.length (TblT.idxs b)) (List.map PV.str (TblT.idxs b))]) && decide (List.length (TblT.cols (asTb (PV.agg [PV.str (TblT.name b), PV.str (TblT.glob b), PV.sl (List.length (TblT.cols b)) (List.map PV.str (TblT.cols b)), PV.sl (List.length (TblT.idxs b)) (List.map PV.str (TblT.idxs b))]))) ≤ 10) && decide (a ≤ 400000))
  (brC (srcOk n l (↑(Int.toNat a + 1 + (List.length (TblT.cols (asTb (PV.agg [PV.str (TblT.name b), PV.str (TblT.glob b), PV.sl (List.length (TblT.cols b)) (List.map PV.str (TblT.cols b)), PV.sl (List.length (TblT.idxs b)) (List.map PV.str (TblT.idxs b))]))) - 1)) : Int) (seedK l (Int.toNat a + 1 + (List.length (TblT.cols (asTb (PV.agg [PV.str (TblT.name b), PV.str (TblT.glob b), PV.sl (List.length (TblT.cols b)) (List.map PV.str (TblT.cols b)), PV.sl (List.length (TblT.idxs b)) (List.map PV.str (TblT.idxs b))]))) - 1))) && decide (12 ≤ 200))
    (brC (pickV l (Int.toNat (↑(Int.toNat a + 1 + (List.length (TblT.cols (asTb (PV.agg [PV.str (TblT.name b), PV.str (TblT.glob b), PV.sl (List.length (TblT.cols b)) (List.map PV.str (TblT.cols b)), PV.sl (List.length (TblT.idxs b)) (List.map PV.str (TblT.idxs b))]))) - 1)) : Int)) 12 == 0)
      (brC (Nat.beq 1 1 && (decide (List.length (rowD l (Int.toNat a) (List.length (TblT.cols (asTb (PV.agg [PV.str (TblT.name b), PV.str (TblT.glob b), PV.sl (List.length (TblT.cols b)) (List.map PV.str (TblT.cols b)), PV.sl (List.length (TblT.idxs b)) (List.map PV.str (TblT.idxs b))]))) - 1)) + 1 ≤ 140737488351232) && decide ((List.length (rowD l (Int.toNat a) (List.length (TblT.cols (asTb (PV.agg [PV.str (TblT.name b), PV.str (TblT.glob b), PV.sl (List.length (TblT.cols b)) (List.map PV.str (TblT.cols b)), PV.sl (List.length (TblT.idxs b)) (List.map PV.str (TblT.idxs b))]))) - 1)) + 1) * 16 ≤ 140737488355328)))
        (some ((IV.agg [CV.lst 1 9 (List.length (rowD l (Int.toNat a) (List.length (TblT.cols (asTb (PV.agg [PV.str (TblT.name b), PV.str (TblT.glob b), PV.sl (List.length (TblT.cols b)) (List.map PV.str (TblT.cols b)), PV.sl (List.length (TblT.idxs b)) (List.map PV.str (TblT.idxs b))]))) - 1)) + 1) (List.map PV.str (rowD l (Int.toNat a) (List.length (TblT.cols (asTb (PV.agg [PV.str (TblT.name b), PV.str (TblT.glob b), PV.sl (List.length (TblT.cols b)) (List.map PV.str (TblT.cols b)), PV.sl (List.length (TblT.idxs b)) (List.map PV.str (TblT.idxs b))]))) - 1)) ++ [PV.str { data := #[122] }]) true], [[CV.pv (PV.sl n l), CV.pv (PV.int IntKind.i64 ((↑(Int.toNat a + 1 + (List.length (TblT.cols (asTb (PV.agg [PV.str (TblT.name b), PV.str (TblT.glob b), PV.sl (List.length (TblT.cols b)) (List.map PV.str (TblT.cols b)), PV.sl (List.length (TblT.idxs b)) (List.map PV.str (TblT.idxs b))]))) - 1)) : Int) + 1)), CV.pv (PV.int IntKind.u64 (seedK l (Int.toNat (↑(Int.toNat a + 1 + (List.length (TblT.cols (asTb (PV.agg [PV.str (TblT.name b), PV.str (TblT.glob b), PV.sl (List.length (TblT.cols b)) (List.map PV.str (TblT.cols b)), PV.sl (List.length (TblT.idxs b)) (List.map PV.str (TblT.idxs b))]))) - 1)) : Int) + 1)))]])))
        (none))
      (brC (pickV l (Int.toNat (↑(Int.toNat a + 1 + (List.length (TblT.cols (asTb (PV.agg [PV.str (TblT.name b), PV.str (TblT.glob b), PV.sl (List.length (TblT.cols b)) (List.map PV.str (TblT.cols b)), PV.sl (List.length (TblT.idxs b)) (List.map PV.str (TblT.idxs b))]))) - 1)) : Int)) 12 == 1)
        (brC (decide ((↑(List.length (rowD l (Int.toNat a) (List.length (TblT.cols (asTb (PV.agg [PV.str (TblT.name b), PV.str (TblT.glob b), PV.sl (List.length (TblT.cols b)) (List.map PV.str (TblT.cols b)), PV.sl (List.length (TblT.idxs b)) (List.map PV.str (TblT.idxs b))]))) - 1))) : Int) ≤ 1))
          (brC (srcOk n l ((↑(Int.toNat a + 1 + (List.length (TblT.cols (asTb (PV.agg [PV.str (TblT.name b), PV.str (TblT.glob b), PV.sl (List.length (TblT.cols b)) (List.map PV.str (TblT.cols b)), PV.sl (List.length (TblT.idxs b)) (List.map PV.str (TblT.idxs b))]))) - 1)) : Int) + 1) (seedK l (Int.toNat (↑(Int.toNat a + 1 + (List.length (TblT.cols (asTb (PV.agg [PV.str (TblT.name b), PV.str (TblT.glob b), PV.sl (List.length (TblT.cols b)) (List.map PV.str (TblT.cols b)), PV.sl (List.length (TblT.idxs b)) (List.map PV.str (TblT.idxs b))]))) - 1)) : Int) + 1)) && wfT 5 [PV.str { data := #[] }, PV.str { data := #[97, 94, 98] }, PV.str { data := #[116, 119, 101, 108, 118, 101, 32, 98, 121, 116, 101, 115] }, PV.str { data := #[101, 108, 101, 118, 101, 110, 32, 98, 121, 116, 101] }, PV.str { data := #[9] }])
            (brC (decide (0 ≤ 0) && decide (0 < (↑(List.length (rowD l (Int.toNat a) (List.length (TblT.cols (asTb (PV.agg [PV.str (TblT.name b), PV.str (TblT.glob b), PV.sl (List.length (TblT.cols b)) (List.map PV.str (TblT.cols b)), PV.sl (List.length (TblT.idxs b)) (List.map PV.str (TblT.idxs b))]))) - 1))) : Int)))
              (brC (Nat.beq (List.length [PV.str (textV l (Int.toNat ((↑(Int.toNat a + 1 + (List.length (TblT.cols (asTb (PV.agg [PV.str (TblT.name b), PV.str (TblT.glob b), PV.sl (List.length (TblT.cols b)) (List.map PV.str (TblT.cols b)), PV.sl (List.length (TblT.idxs b)) (List.map PV.str (TblT.idxs b))]))) - 1)) : Int) + 1)) [PV.str { data := #[] }, PV.str { data := #[97, 94, 98] }, PV.str { data := #[116, 119, 101, 108, 118, 101, 32, 98, 121, 116, 101, 115] }, PV.str { data := #[101, 108, 101, 118, 101, 110, 32, 98, 121, 116, 101] }, PV.str { data := #[9] }])]) 1 && Nat.ble 1 (List.length (List.map PV.str (rowD l (Int.toNat a) (List.length (TblT.cols (asTb (PV.agg [PV.str (TblT.name b), PV.str (TblT.glob b), PV.sl (List.length (TblT.cols b)) (List.map PV.str (TblT.cols b)), PV.sl (List.length (TblT.idxs b)) (List.map PV.str (TblT.idxs b))]))) - 1)))))
                (some ((IV.agg [CV.lst 1 9 (List.length (rowD l (Int.toNat a) (List.length (TblT.cols (asTb (PV.agg [PV.str (TblT.name b), PV.str (TblT.glob b), PV.sl (List.length (TblT.cols b)) (List.map PV.str (TblT.cols b)), PV.sl (List.length (TblT.idxs b)) (List.map PV.str (TblT.idxs b))]))) - 1))) (PV.str (textV l (Int.toNat ((↑(Int.toNat a + 1 + (List.length (TblT.cols (asTb (PV.agg [PV.str (TblT.name b), PV.str (TblT.glob b), PV.sl (List.length (TblT.cols b)) (List.map PV.str (TblT.cols b)), PV.sl (List.length (TblT.idxs b)) (List.map PV.str (TblT.idxs b))]))) - 1)) : Int) + 1)) [PV.str { data := #[] }, PV.str { data := #[97, 94, 98] }, PV.str { data := #[116, 119, 101, 108, 118, 101, 32, 98, 121, 116, 101, 115] }, PV.str { data := #[101, 108, 101, 118, 101, 110, 32, 98, 121, 116, 101] }, PV.str { data := #[9] }]) :: List.append._f [] PUnit.unit (List.drop 1 (List.map PV.str (rowD l (Int.toNat a) (List.length (TblT.cols (asTb (PV.agg [PV.str (TblT.name b), PV.str (TblT.glob b), PV.sl (List.length (TblT.cols b)) (List.map PV.str (TblT.cols b)), PV.sl (List.length (TblT.idxs b)) (List.map PV.str (TblT.idxs b))]))) - 1))))) true], [[CV.pv (PV.sl n l), CV.pv (PV.int IntKind.i64 ((↑(Int.toNat a + 1 + (List.length (TblT.cols (asTb (PV.agg [PV.str (TblT.name b), PV.str (TblT.glob b), PV.sl (List.length (TblT.cols b)) (List.map PV.str (TblT.cols b)), PV.sl (List.length (TblT.idxs b)) (List.map PV.str (TblT.idxs b))]))) - 1)) : Int) + 1 + 1)), CV.pv (PV.int IntKind.u64 (seedK l (Int.toNat ((↑(Int.toNat a + 1 + (List.length (TblT.cols (asTb (PV.agg [PV.str (TblT.name b), PV.str (TblT.glob b), PV.sl (List.length (TblT.cols b)) (List.map PV.str (TblT.cols b)), PV.sl (List.length (TblT.idxs b)) (List.map PV.str (TblT.idxs b))]))) - 1)) : Int) + 1) + 1)))]])))
                (none))
              (none))
            (none))
          (brC (srcOk n l ((↑(Int.toNat a + 1 + (List.length (TblT.cols (asTb (PV.agg [PV.str (TblT.name b), PV.str (TblT.glob b), PV.sl (List.length (TblT.cols b)) (List.map PV.str (TblT.cols b)), PV.sl (List.length (TblT.idxs b)) (List.map PV.str (TblT.idxs b))]))) - 1)) : Int) + 1) (seedK l (Int.toNat (↑(Int.toNat a + 1 + (List.length (TblT.cols (asTb (PV.agg [PV.str (TblT.name b), PV.str (TblT.glob b), PV.sl (List.length (TblT.cols b)) (List.map PV.str (TblT.cols b)), PV.sl (List.length (TblT.idxs b)) (List.map PV.str (TblT.idxs b))]))) - 1)) : Int) + 1)) && decide ((↑(List.length (rowD l (Int.toNat a) (List.length (TblT.cols (asTb (PV.agg [PV.str (TblT.name b), PV.str (TblT.glob b), PV.sl (List.length (TblT.cols b)) (List.map PV.str (TblT.cols b)), PV.sl (List.length (TblT.idxs b)) (List.map PV.str (TblT.idxs b))]))) - 1))) : Int) ≤ 200))
            (brC (srcOk n l ((↑(Int.toNat a + 1 + (List.length (TblT.cols (asTb (PV.agg [PV.str (TblT.name b), PV.str (TblT.glob b), PV.sl (List.length (TblT.cols b)) (List.map PV.str (TblT.cols b)), PV.sl (List.length (TblT.idxs b)) (List.map PV.str (TblT.idxs b))]))) - 1)) : Int) + 1 + 1) (seedK l (Int.toNat ((↑(Int.toNat a + 1 + (List.length (TblT.cols (asTb (PV.agg [PV.str (TblT.name b), PV.str (TblT.glob b), PV.sl (List.length (TblT.cols b)) (List.map PV.str (TblT.cols b)), PV.sl (List.length (TblT.idxs b)) (List.map PV.str (TblT.idxs b))]))) - 1)) : Int) + 1) + 1)) && wfT 5 [PV.str { data := #[] }, PV.str { data := #[97, 94, 98] }, PV.str { data := #[116, 119, 101, 108, 118, 101, 32, 98, 121, 116, 101, 115] }, PV.str { data := #[101, 108, 101, 118, 101, 110, 32, 98, 121, 116, 101] }, PV.str { data := #[9] }])
              (brC (decide (0 ≤ pickV l (Int.toNat ((↑(Int.toNat a + 1 + (List.length (TblT.cols (asTb (PV.agg [PV.str (TblT.name b), PV.str (TblT.glob b), PV.sl (List.length (TblT.cols b)) (List.map PV.str (TblT.cols b)), PV.sl (List.length (TblT.idxs b)) (List.map PV.str (TblT.idxs b))]))) - 1)) : Int) + 1)) (↑(List.length (rowD l (Int.toNat a) (List.length (TblT.cols (asTb (PV.agg [PV.str (TblT.name b), PV.str (TblT.glob b), PV.sl (List.length (TblT.cols b)) (List.map PV.str (TblT.cols b)), PV.sl (List.length (TblT.idxs b)) (List.map PV.str (TblT.idxs b))]))) - 1))) : Int)) && decide (pickV l (Int.toNat ((↑(Int.toNat a + 1 + (List.length (TblT.cols (asTb (PV.agg [PV.str (TblT.name b), PV.str (TblT.glob b), PV.sl (List.length (TblT.cols b)) (List.map PV.str (TblT.cols b)), PV.sl (List.length (TblT.idxs b)) (List.map PV.str (TblT.idxs b))]))) - 1)) : Int) + 1)) (↑(List.length (rowD l (Int.toNat a) (List.length (TblT.cols (asTb (PV.agg [PV.str (TblT.name b), PV.str (TblT.glob b), PV.sl (List.length (TblT.cols b)) (List.map PV.str (TblT.cols b)), PV.sl (List.length (TblT.idxs b)) (List.map PV.str (TblT.idxs b))]))) - 1))) : Int) < (↑(List.length (rowD l (Int.toNat a) (List.length (TblT.cols (asTb (PV.agg [PV.str (TblT.name b), PV.str (TblT.glob b), PV.sl (List.length (TblT.cols b)) (List.map PV.str (TblT.cols b)), PV.sl (List.length (TblT.idxs b)) (List.map PV.str (TblT.idxs b))]))) - 1))) : Int)))
                (brC (Nat.beq (List.length [PV.str (textV l (Int.toNat ((↑(Int.toNat a + 1 + (List.length (TblT.cols (asTb (PV.agg [PV.str (TblT.name b), PV.str (TblT.glob b), PV.sl (List.length (TblT.cols b)) (List.map PV.str (TblT.cols b)), PV.sl (List.length (TblT.idxs b)) (List.map PV.str (TblT.idxs b))]))) - 1)) : Int) + 1 + 1)) [PV.str { data := #[] }, PV.str { data := #[97, 94, 98] }, PV.str { data := #[116, 119, 101, 108, 118, 101, 32, 98, 121, 116, 101, 115] }, PV.str { data := #[101, 108, 101, 118, 101, 110, 32, 98, 121, 116, 101] }, PV.str { data := #[9] }])]) 1 && Nat.ble (Int.toNat (pickV l (Int.toNat ((↑(Int.toNat a + 1 + (List.length (TblT.cols (asTb (PV.agg [PV.str (TblT.name b), PV.str (TblT.glob b), PV.sl (List.length (TblT.cols b)) (List.map PV.str (TblT.cols b)), PV.sl (List.length (TblT.idxs b)) (List.map PV.str (TblT.idxs b))]))) - 1)) : Int) + 1)) (↑(List.length (rowD l (Int.toNat a) (List.length (TblT.cols (asTb (PV.agg [PV.str (TblT.name b), PV.str (TblT.glob b), PV.sl (List.length (TblT.cols b)) (List.map PV.str (TblT.cols b)), PV.sl (List.length (TblT.idxs b)) (List.map PV.str (TblT.idxs b))]))) - 1))) : Int)) * 1 + 1) (List.length (List.map PV.str (rowD l (Int.toNat a) (List.length (TblT.cols (asTb (PV.agg [PV.str (TblT.name b), PV.str (TblT.glob b), PV.sl (List.length (TblT.cols b)) (List.map PV.str (TblT.cols b)), PV.sl (List.length (TblT.idxs b)) (List.map PV.str (TblT.idxs b))]))) - 1)))))
                  (some ((IV.agg [CV.lst 1 9 (List.length (rowD l (Int.toNat a) (List.length (TblT.cols (asTb (PV.agg [PV.str (TblT.name b), PV.str (TblT.glob b), PV.sl (List.length (TblT.cols b)) (List.map PV.str (TblT.cols b)), PV.sl (List.length (TblT.idxs b)) (List.map PV.str (TblT.idxs b))]))) - 1))) (List.take (Int.toNat (pickV l (Int.toNat ((↑(Int.toNat a + 1 + (List.length (TblT.cols (asTb (PV.agg [PV.str (TblT.name b), PV.str (TblT.glob b), PV.sl (List.length (TblT.cols b)) (List.map PV.str (TblT.cols b)), PV.sl (List.length (TblT.idxs b)) (List.map PV.str (TblT.idxs b))]))) - 1)) : Int) + 1)) (↑(List.length (rowD l (Int.toNat a) (List.length (TblT.cols (asTb (PV.agg [PV.str (TblT.name b), PV.str (TblT.glob b), PV.sl (List.length (TblT.cols b)) (List.map PV.str (TblT.cols b)), PV.sl (List.length (TblT.idxs b)) (List.map PV.str (TblT.idxs b))]))) - 1))) : Int)) * 1) (List.map PV.str (rowD l (Int.toNat a) (List.length (TblT.cols (asTb (PV.agg [PV.str (TblT.name b), PV.str (TblT.glob b), PV.sl (List.length (TblT.cols b)) (List.map PV.str (TblT.cols b)), PV.sl (List.length (TblT.idxs b)) (List.map PV.str (TblT.idxs b))]))) - 1))) ++ [PV.str (textV l (Int.toNat ((↑(Int.toNat a + 1 + (List.length (TblT.cols (asTb (PV.agg [PV.str (TblT.name b), PV.str (TblT.glob b), PV.sl (List.length (TblT.cols b)) (List.map PV.str (TblT.cols b)), PV.sl (List.length (TblT.idxs b)) (List.map PV.str (TblT.idxs b))]))) - 1)) : Int) + 1 + 1)) [PV.str { data := #[] }, PV.str { data := #[97, 94, 98] }, PV.str { data := #[116, 119, 101, 108, 118, 101, 32, 98, 121, 116, 101, 115] }, PV.str { data := #[101, 108, 101, 118, 101, 110, 32, 98, 121, 116, 101] }, PV.str { data := #[9] }])] ++ List.drop (Int.toNat (pickV l (Int.toNat ((↑(Int.toNat a + 1 + (List.length (TblT.cols (asTb (PV.agg [PV.str (TblT.name b), PV.str (TblT.glob b), PV.sl (List.length (TblT.cols b)) (List.map PV.str (TblT.cols b)), PV.sl (List.length (TblT.idxs b)) (List.map PV.str (TblT.idxs b))]))) - 1)) : Int) + 1)) (↑(List.length (rowD l (Int.toNat a) (List.length (TblT.cols (asTb (PV.agg [PV.str (TblT.name b), PV.str (TblT.glob b), PV.sl (List.length (TblT.cols b)) (List.map PV.str (TblT.cols b)), PV.sl (List.length (TblT.idxs b)) (List.map PV.str (TblT.idxs b))]))) - 1))) : Int)) * 1 + 1) (List.map PV.str (rowD l (Int.toNat a) (List.length (TblT.cols (asTb (PV.agg [PV.str (TblT.name b), PV.str (TblT.glob b), PV.sl (List.length (TblT.cols b)) (List.map PV.str (TblT.cols b)), PV.sl (List.length (TblT.idxs b)) (List.map PV.str (TblT.idxs b))]))) - 1)))) true], [[CV.pv (PV.sl n l), CV.pv (PV.int IntKind.i64 ((↑(Int.toNat a + 1 + (List.length (TblT.cols (asTb (PV.agg [PV.str (TblT.name b), PV.str (TblT.glob b), PV.sl (List.length (TblT.cols b)) (List.map PV.str (TblT.cols b)), PV.sl (List.length (TblT.idxs b)) (List.map PV.str (TblT.idxs b))]))) - 1)) : Int) + 1 + 1 + 1)), CV.pv (PV.int IntKind.u64 (seedK l (Int.toNat ((↑(Int.toNat a + 1 + (List.length (TblT.cols (asTb (PV.agg [PV.str (TblT.name b), PV.str (TblT.glob b), PV.sl (List.length (TblT.cols b)) (List.map PV.str (TblT.cols b)), PV.sl (List.length (TblT.idxs b)) (List.map PV.str (TblT.idxs b))]))) - 1)) : Int) + 1 + 1) + 1)))]])))
                  (none))
                (none))
              (none))
            (none)))
        (some ((IV.agg [CV.lst 1 9 (List.length (rowD l (Int.toNat a) (List.length (TblT.cols (asTb (PV.agg [PV.str (TblT.name b), PV.str (TblT.glob b), PV.sl (List.length (TblT.cols b)) (List.map PV.str (TblT.cols b)), PV.sl (List.length (TblT.idxs b)) (List.map PV.str (TblT.idxs b))]))) - 1))) (List.map PV.str (rowD l (Int.toNat a) (List.length (TblT.cols (asTb (PV.agg [PV.str (TblT.name b), PV.str (TblT.glob b), PV.sl (List.length (TblT.cols b)) (List.map PV.str (TblT.cols b)), PV.sl (List.length (TblT.idxs b)) (List.map PV.str (TblT.idxs b))]))) - 1))) true], [[CV.pv (PV.sl n l), CV.pv (PV.int IntKind.i64 ((↑(Int.toNat a + 1 + (List.length (TblT.cols (asTb (PV.agg [PV.str (TblT.name b), PV.str (TblT.glob b), PV.sl (List.length (TblT.cols b)) (List.map PV.str (TblT.cols b)), PV.sl (List.length (TblT.idxs b)) (List.map PV.str (TblT.idxs b))]))) - 1)) : Int) + 1)), CV.pv (PV.int IntKind.u64 (seedK l (Int.toNat (↑(Int.toNat a + 1 + (List.length (TblT.cols (asTb (PV.agg [PV.str (TblT.name b), PV.str (TblT.glob b), PV.sl (List.length (TblT.cols b)) (List.map PV.str (TblT.cols b)), PV.sl (List.length (TblT.idxs b)) (List.map PV.str (TblT.idxs b))]))) - 1)) : Int) + 1)))]])))))
    (none))
  (none) := by kernel_rfl
theorem q_Pk_eq (cs : List ByteArray) : q_Pk brC cs =
 brC (isL (pL cs) && Nat.beq 4096 4096 && 1 == 1 && decide (0 ≤ 0) && decide (List.length (asL (pL cs)) ≤ 12) && allS (asL (pL cs)))
  (some ((IV.cv (CV.pv (PV.str (pkF (asL (pL cs)) (List.length (asL (pL cs)) - 1) 1 { data := #[] }))), [])))
  (none) := by kernel_rfl
theorem q_Key29_eq (n : Nat) (l : List PV) (a : Int) (g : Int) : q_Key29 brC n l a g =
 brC (srcOk n l a g && wfT 6 [PV.str { data := #[49] }, PV.str { data := #[50] }, PV.str { data := #[49, 48] }, PV.str { data := #[97] }, PV.str { data := #[51] }, PV.str { data := #[98, 55] }])
  (some ((IV.cv (CV.pv (PV.str (textV l (Int.toNat a) [PV.str { data := #[49] }, PV.str { data := #[50] }, PV.str { data := #[49, 48] }, PV.str { data := #[97] }, PV.str { data := #[51] }, PV.str { data := #[98, 55] }]))), [[CV.pv (PV.sl n l), CV.pv (PV.int IntKind.i64 (a + 1)), CV.pv (PV.int IntKind.u64 (seedK l (Int.toNat a + 1)))]])))
  (none) := by kernel_rfl
theorem r_DrawRow_eq (n : Nat) (l : List PV) (a : Int) (g : Int) (s : ByteArray) (h : ByteArray) (xs : List ByteArray) (q : PV) (cn : Nat) (cl : List PV) (i : Int) : r_DrawRow brC n l a g s h xs q cn cl i =
 brC (decide (i < (↑(List.length xs) : Int)))
  (brC (srcOk n l a g && wfT 6 [PV.str { data := #[] }, PV.str { data := #[97, 110, 110] }, PV.str { data := #[98, 111, 98] }, PV.str { data := #[51] }, PV.str { data := #[49, 50] }, PV.str { data := #[120, 32, 121] }])
    (brC (Nat.beq (List.length [PV.str (textV l (Int.toNat a) [PV.str { data := #[] }, PV.str { data := #[97, 110, 110] }, PV.str { data := #[98, 111, 98] }, PV.str { data := #[51] }, PV.str { data := #[49, 50] }, PV.str { data := #[120, 32, 121] }])]) (1 * 1) && (decide (cn + 1 ≤ 140737488351232) && decide ((cn + 1) * 16 ≤ 140737488355328)))
      (some (Sum.inl [(AV.ptr 0 0, some (Ob.box [CV.pv (PV.sl n l), CV.pv (PV.int IntKind.i64 (a + 1)), CV.pv (PV.int IntKind.u64 (seedK l (Int.toNat a + 1)))])), (AV.ptr 12288 0, some (Ob.box [CV.pv (PV.str s), CV.pv (PV.str h), CV.pv (PV.sl (List.length xs) (List.map PV.str xs)), CV.pv q])), (AV.ptr 16384 0, some (Ob.box [CV.pv PV.nils])), (AV.ptr 20480 0, some (Ob.box [CV.lst 1 9 (cn + 1) (cl ++ [PV.str (textV l (Int.toNat a) [PV.str { data := #[] }, PV.str { data := #[97, 110, 110] }, PV.str { data := #[98, 111, 98] }, PV.str { data := #[51] }, PV.str { data := #[49, 50] }, PV.str { data := #[120, 32, 121] }])]) true])), (AV.pv (PV.int IntKind.i64 (IntKind.wrap IntKind.i64 (i + 1))), none)]))
      (none))
    (none))
  (some (Sum.inr (Ex.exit 0, [(AV.ptr 0 0, some (Ob.box [CV.pv (PV.sl n l), CV.pv (PV.int IntKind.i64 a), CV.pv (PV.int IntKind.u64 g)])), (AV.ptr 16384 0, some (Ob.box [CV.pv PV.nils])), (AV.ptr 20480 0, some (Ob.box [CV.lst 1 9 cn cl true]))]))) := by kernel_rfl
theorem q_DrawRow_eq (n : Nat) (l : List PV) (a : Int) (g : Int) (b : TblT) : q_DrawRow brC n l a g b =
 brC (srcOk n l a g)
  (brC (srcOk n l (a + 1) (seedK l (Int.toNat a + 1)) && isL (pL (TblT.cols b)) && Nat.beq 12288 12288 && Nat.beq 16384 16384 && Nat.beq 20480 20480 && Nat.beq 9 9 && Nat.beq 1 1 && 1 == 1 && decide (List.length (asL (pL (TblT.cols b))) ≤ 10) && decide (a + 1 ≤ 1000000))
    (some ((IV.agg [CV.lst 1 9 (1 + (List.length (asL (pL (TblT.cols b))) - 1)) (PV.str (textV l (Int.toNat a) key29) :: List.append._f [] PUnit.unit (List.map PV.str (drK l (List.length (asL (pL (TblT.cols b))) - 1) (Int.toNat (a + 1))))) true], [[CV.pv (PV.sl n l), CV.pv (PV.int IntKind.i64 (a + 1 + (↑(List.length (asL (pL (TblT.cols b))) - 1) : Int))), CV.pv (PV.int IntKind.u64 (seedK l (Int.toNat (a + 1) + (List.length (asL (pL (TblT.cols b))) - 1))))]])))
    (none))
  (none) := by kernel_rfl
theorem q_AnyTab_eq (n : Nat) (l : List PV) (a : Int) (g : Int) : q_AnyTab brC n l a g =
 brC (srcOk n l a g && decide (a ≤ 400000))
  (brC (srcOk n l (↑(Prod.snd (tab29V n l (Int.toNat a))) : Int) (seedK l (Prod.snd (tab29V n l (Int.toNat a)))) && decide (14 ≤ 200))
    (brC (pickV l (Int.toNat (↑(Prod.snd (tab29V n l (Int.toNat a))) : Int)) 14 == 0)
      (brC (srcOk n l ((↑(Prod.snd (tab29V n l (Int.toNat a))) : Int) + 1) (seedK l (Int.toNat (↑(Prod.snd (tab29V n l (Int.toNat a))) : Int) + 1)) && wfT 4 [PV.str { data := #[105, 100] }, PV.str { data := #[120] }, PV.str { data := #[49] }, PV.str { data := #[121] }])
        (brC (Nat.beq (List.length [PV.str (textV l (Int.toNat ((↑(Prod.snd (tab29V n l (Int.toNat a))) : Int) + 1)) [PV.str { data := #[105, 100] }, PV.str { data := #[120] }, PV.str { data := #[49] }, PV.str { data := #[121] }])]) (1 * 1) && (decide (List.length (TblT.cols (Prod.fst (tab29V n l (Int.toNat a)))) + 1 ≤ 140737488351232) && decide ((List.length (TblT.cols (Prod.fst (tab29V n l (Int.toNat a)))) + 1) * 16 ≤ 140737488355328)))
          (some ((IV.agg [CV.pv (PV.str (TblT.name (Prod.fst (tab29V n l (Int.toNat a))))), CV.pv (PV.str (TblT.glob (Prod.fst (tab29V n l (Int.toNat a))))), CV.pv (PV.sl (List.length (TblT.cols (Prod.fst (tab29V n l (Int.toNat a)))) + 1) (List.map PV.str (TblT.cols (Prod.fst (tab29V n l (Int.toNat a)))) ++ [PV.str (textV l (Int.toNat ((↑(Prod.snd (tab29V n l (Int.toNat a))) : Int) + 1)) [PV.str { data := #[105, 100] }, PV.str { data := #[120] }, PV.str { data := #[49] }, PV.str { data := #[121] }])])), CV.pv (PV.sl (List.length (TblT.idxs (Prod.fst (tab29V n l (Int.toNat a))))) (List.map PV.str (TblT.idxs (Prod.fst (tab29V n l (Int.toNat a))))))], [[CV.pv (PV.sl n l), CV.pv (PV.int IntKind.i64 ((↑(Prod.snd (tab29V n l (Int.toNat a))) : Int) + 1 + 1)), CV.pv (PV.int IntKind.u64 (seedK l (Int.toNat ((↑(Prod.snd (tab29V n l (Int.toNat a))) : Int) + 1) + 1)))]])))
          (none))
        (none))
      (brC (pickV l (Int.toNat (↑(Prod.snd (tab29V n l (Int.toNat a))) : Int)) 14 == 1)
        (brC (srcOk n l ((↑(Prod.snd (tab29V n l (Int.toNat a))) : Int) + 1) (seedK l (Int.toNat (↑(Prod.snd (tab29V n l (Int.toNat a))) : Int) + 1)) && wfT 3 [PV.str { data := #[105, 100] }, PV.str { data := #[110, 97, 109, 101] }, PV.str { data := #[100, 114] }])
          (brC (Nat.beq (List.length [PV.str (textV l (Int.toNat ((↑(Prod.snd (tab29V n l (Int.toNat a))) : Int) + 1)) [PV.str { data := #[105, 100] }, PV.str { data := #[110, 97, 109, 101] }, PV.str { data := #[100, 114] }])]) (1 * 1) && (decide (List.length (TblT.idxs (Prod.fst (tab29V n l (Int.toNat a)))) + 1 ≤ 140737488351232) && decide ((List.length (TblT.idxs (Prod.fst (tab29V n l (Int.toNat a)))) + 1) * 16 ≤ 140737488355328)))
            (some ((IV.agg [CV.pv (PV.str (TblT.name (Prod.fst (tab29V n l (Int.toNat a))))), CV.pv (PV.str (TblT.glob (Prod.fst (tab29V n l (Int.toNat a))))), CV.pv (PV.sl (List.length (TblT.cols (Prod.fst (tab29V n l (Int.toNat a))))) (List.map PV.str (TblT.cols (Prod.fst (tab29V n l (Int.toNat a)))))), CV.pv (PV.sl (List.length (TblT.idxs (Prod.fst (tab29V n l (Int.toNat a)))) + 1) (List.map PV.str (TblT.idxs (Prod.fst (tab29V n l (Int.toNat a)))) ++ [PV.str (textV l (Int.toNat ((↑(Prod.snd (tab29V n l (Int.toNat a))) : Int) + 1)) [PV.str { data := #[105, 100] }, PV.str { data := #[110, 97, 109, 101] }, PV.str { data := #[100, 114] }])]))], [[CV.pv (PV.sl n l), CV.pv (PV.int IntKind.i64 ((↑(Prod.snd (tab29V n l (Int.toNat a))) : Int) + 1 + 1)), CV.pv (PV.int IntKind.u64 (seedK l (Int.toNat ((↑(Prod.snd (tab29V n l (Int.toNat a))) : Int) + 1) + 1)))]])))
            (none))
          (none))
        (brC (pickV l (Int.toNat (↑(Prod.snd (tab29V n l (Int.toNat a))) : Int)) 14 == 2)
          (brC (srcOk n l ((↑(Prod.snd (tab29V n l (Int.toNat a))) : Int) + 1) (seedK l (Int.toNat (↑(Prod.snd (tab29V n l (Int.toNat a))) : Int) + 1)) && wfT 3 [PV.str { data := #[] }, PV.str { data := #[87, 50] }, PV.str { data := #[57] }])
            (some ((IV.agg [CV.pv (PV.str (TblT.name (Prod.fst (tab29V n l (Int.toNat a))))), CV.pv (PV.str (textV l (Int.toNat ((↑(Prod.snd (tab29V n l (Int.toNat a))) : Int) + 1)) [PV.str { data := #[] }, PV.str { data := #[87, 50] }, PV.str { data := #[57] }])), CV.pv (PV.sl (List.length (TblT.cols (Prod.fst (tab29V n l (Int.toNat a))))) (List.map PV.str (TblT.cols (Prod.fst (tab29V n l (Int.toNat a)))))), CV.pv (PV.sl (List.length (TblT.idxs (Prod.fst (tab29V n l (Int.toNat a))))) (List.map PV.str (TblT.idxs (Prod.fst (tab29V n l (Int.toNat a))))))], [[CV.pv (PV.sl n l), CV.pv (PV.int IntKind.i64 ((↑(Prod.snd (tab29V n l (Int.toNat a))) : Int) + 1 + 1)), CV.pv (PV.int IntKind.u64 (seedK l (Int.toNat ((↑(Prod.snd (tab29V n l (Int.toNat a))) : Int) + 1) + 1)))]])))
            (none))
          (brC (pickV l (Int.toNat (↑(Prod.snd (tab29V n l (Int.toNat a))) : Int)) 14 == 3)
            (some ((IV.agg [CV.pv (PV.str (TblT.name (Prod.fst (tab29V n l (Int.toNat a))))), CV.pv (PV.str (TblT.glob (Prod.fst (tab29V n l (Int.toNat a))))), CV.pv (PV.sl 0 []), CV.pv (PV.sl (List.length (TblT.idxs (Prod.fst (tab29V n l (Int.toNat a))))) (List.map PV.str (TblT.idxs (Prod.fst (tab29V n l (Int.toNat a))))))], [[CV.pv (PV.sl n l), CV.pv (PV.int IntKind.i64 ((↑(Prod.snd (tab29V n l (Int.toNat a))) : Int) + 1)), CV.pv (PV.int IntKind.u64 (seedK l (Int.toNat (↑(Prod.snd (tab29V n l (Int.toNat a))) : Int) + 1)))]])))
            (some ((IV.agg [CV.pv (PV.str (TblT.name (Prod.fst (tab29V n l (Int.toNat a))))), CV.pv (PV.str (TblT.glob (Prod.fst (tab29V n l (Int.toNat a))))), CV.pv (PV.sl (List.length (TblT.cols (Prod.fst (tab29V n l (Int.toNat a))))) (List.map PV.str (TblT.cols (Prod.fst (tab29V n l (Int.toNat a)))))), CV.pv (PV.sl (List.length (TblT.idxs (Prod.fst (tab29V n l (Int.toNat a))))) (List.map PV.str (TblT.idxs (Prod.fst (tab29V n l (Int.toNat a))))))], [[CV.pv (PV.sl n l), CV.pv (PV.int IntKind.i64 ((↑(Prod.snd (tab29V n l (Int.toNat a))) : Int) + 1)), CV.pv (PV.int IntKind.u64 (seedK l (Int.toNat (↑(Prod.snd (tab29V n l (Int.toNat a))) : Int) + 1)))]])))))))
    (none))
  (none) := by kernel_rfl
theorem r_Pk_eq (cs : List ByteArray) (t : ByteArray) (i : Int) : r_Pk brC cs t i =
 brC (decide (i < (↑(List.length cs) : Int)))
  (brC (decide (i > 1))
    (brC (decide (ByteArray.size t + 1 ≤ 9223372036854775807) && true)
      (brC (decide (0 ≤ i) && decide (i < (↑(List.length cs) : Int)))
        (brC (Nat.blt 0 (List.length (List.drop (Int.toNat i * 1) (List.map PV.str cs))) && PV.isStr (List.headD (List.drop (Int.toNat i * 1) (List.map PV.str cs)) PV.nilp) && true)
          (brC (decide (ByteArray.size (t ++ { data := #[94] }) + ByteArray.size (PV.asStr (List.headD (List.drop (Int.toNat i * 1) (List.map PV.str cs)) PV.nilp)) ≤ 9223372036854775807) && true)
            (some (Sum.inl [(AV.ptr 4096 0, some (Ob.box [CV.pv (PV.sl (List.length cs) (List.map PV.str cs))])), (AV.pv (PV.str (t ++ { data := #[94] } ++ PV.asStr (List.headD (List.drop (Int.toNat i * 1) (List.map PV.str cs)) PV.nilp))), none), (AV.pv (PV.int IntKind.i64 (IntKind.wrap IntKind.i64 (i + 1))), none)]))
            (none))
          (none))
        (none))
      (none))
    (brC (decide (0 ≤ i) && decide (i < (↑(List.length cs) : Int)))
      (brC (Nat.blt 0 (List.length (List.drop (Int.toNat i * 1) (List.map PV.str cs))) && PV.isStr (List.headD (List.drop (Int.toNat i * 1) (List.map PV.str cs)) PV.nilp) && true)
        (brC (decide (ByteArray.size t + ByteArray.size (PV.asStr (List.headD (List.drop (Int.toNat i * 1) (List.map PV.str cs)) PV.nilp)) ≤ 9223372036854775807) && true)
          (some (Sum.inl [(AV.ptr 4096 0, some (Ob.box [CV.pv (PV.sl (List.length cs) (List.map PV.str cs))])), (AV.pv (PV.str (t ++ PV.asStr (List.headD (List.drop (Int.toNat i * 1) (List.map PV.str cs)) PV.nilp))), none), (AV.pv (PV.int IntKind.i64 (IntKind.wrap IntKind.i64 (i + 1))), none)]))
          (none))
        (none))
      (none)))
  (some (Sum.inr (Ex.exit 0, [(AV.pv (PV.str t), none)]))) := by kernel_rfl
theorem q_DUR_eq (n : Nat) (l : List PV) : q_DUR brC n l =
 brC (srcOk n l 0 0 && decide (0 ≤ 300000))
  (brC (srcOk n l (↑(Prod.snd (anyTabV n l 0)) : Int) (seedK l (Prod.snd (anyTabV n l 0))) && isTb (PV.agg [PV.str (TblT.name (Prod.fst (anyTabV n l 0))), PV.str (TblT.glob (Prod.fst (anyTabV n l 0))), PV.sl (List.length (TblT.cols (Prod.fst (anyTabV n l 0)))) (List.map PV.str (TblT.cols (Prod.fst (anyTabV n l 0)))), PV.sl (List.length (TblT.idxs (Prod.fst (anyTabV n l 0)))) (List.map PV.str (TblT.idxs (Prod.fst (anyTabV n l 0))))]) && decide (List.length (TblT.cols (asTb (PV.agg [PV.str (TblT.name (Prod.fst (anyTabV n l 0))), PV.str (TblT.glob (Prod.fst (anyTabV n l 0))), PV.sl (List.length (TblT.cols (Prod.fst (anyTabV n l 0)))) (List.map PV.str (TblT.cols (Prod.fst (anyTabV n l 0)))), PV.sl (List.length (TblT.idxs (Prod.fst (anyTabV n l 0)))) (List.map PV.str (TblT.idxs (Prod.fst (anyTabV n l 0))))]))) ≤ 10) && decide ((↑(Prod.snd (anyTabV n l 0)) : Int) ≤ 300000))
    (brC (isRw (PV.agg [PV.sl (List.length (Prod.fst (anyRowV (asTb (PV.agg [PV.str (TblT.name (Prod.fst (anyTabV n l 0))), PV.str (TblT.glob (Prod.fst (anyTabV n l 0))), PV.sl (List.length (TblT.cols (Prod.fst (anyTabV n l 0)))) (List.map PV.str (TblT.cols (Prod.fst (anyTabV n l 0)))), PV.sl (List.length (TblT.idxs (Prod.fst (anyTabV n l 0)))) (List.map PV.str (TblT.idxs (Prod.fst (anyTabV n l 0))))])) n l (Int.toNat (↑(Prod.snd (anyTabV n l 0)) : Int))))) (List.map PV.str (Prod.fst (anyRowV (asTb (PV.agg [PV.str (TblT.name (Prod.fst (anyTabV n l 0))), PV.str (TblT.glob (Prod.fst (anyTabV n l 0))), PV.sl (List.length (TblT.cols (Prod.fst (anyTabV n l 0)))) (List.map PV.str (TblT.cols (Prod.fst (anyTabV n l 0)))), PV.sl (List.length (TblT.idxs (Prod.fst (anyTabV n l 0)))) (List.map PV.str (TblT.idxs (Prod.fst (anyTabV n l 0))))])) n l (Int.toNat (↑(Prod.snd (anyTabV n l 0)) : Int)))))]) && decide (List.length (asRw (PV.agg [PV.sl (List.length (Prod.fst (anyRowV (asTb (PV.agg [PV.str (TblT.name (Prod.fst (anyTabV n l 0))), PV.str (TblT.glob (Prod.fst (anyTabV n l 0))), PV.sl (List.length (TblT.cols (Prod.fst (anyTabV n l 0)))) (List.map PV.str (TblT.cols (Prod.fst (anyTabV n l 0)))), PV.sl (List.length (TblT.idxs (Prod.fst (anyTabV n l 0)))) (List.map PV.str (TblT.idxs (Prod.fst (anyTabV n l 0))))])) n l (Int.toNat (↑(Prod.snd (anyTabV n l 0)) : Int))))) (List.map PV.str (Prod.fst (anyRowV (asTb (PV.agg [PV.str (TblT.name (Prod.fst (anyTabV n l 0))), PV.str (TblT.glob (Prod.fst (anyTabV n l 0))), PV.sl (List.length (TblT.cols (Prod.fst (anyTabV n l 0)))) (List.map PV.str (TblT.cols (Prod.fst (anyTabV n l 0)))), PV.sl (List.length (TblT.idxs (Prod.fst (anyTabV n l 0)))) (List.map PV.str (TblT.idxs (Prod.fst (anyTabV n l 0))))])) n l (Int.toNat (↑(Prod.snd (anyTabV n l 0)) : Int)))))])) ≤ 12) && allS (asRw (PV.agg [PV.sl (List.length (Prod.fst (anyRowV (asTb (PV.agg [PV.str (TblT.name (Prod.fst (anyTabV n l 0))), PV.str (TblT.glob (Prod.fst (anyTabV n l 0))), PV.sl (List.length (TblT.cols (Prod.fst (anyTabV n l 0)))) (List.map PV.str (TblT.cols (Prod.fst (anyTabV n l 0)))), PV.sl (List.length (TblT.idxs (Prod.fst (anyTabV n l 0)))) (List.map PV.str (TblT.idxs (Prod.fst (anyTabV n l 0))))])) n l (Int.toNat (↑(Prod.snd (anyTabV n l 0)) : Int))))) (List.map PV.str (Prod.fst (anyRowV (asTb (PV.agg [PV.str (TblT.name (Prod.fst (anyTabV n l 0))), PV.str (TblT.glob (Prod.fst (anyTabV n l 0))), PV.sl (List.length (TblT.cols (Prod.fst (anyTabV n l 0)))) (List.map PV.str (TblT.cols (Prod.fst (anyTabV n l 0)))), PV.sl (List.length (TblT.idxs (Prod.fst (anyTabV n l 0)))) (List.map PV.str (TblT.idxs (Prod.fst (anyTabV n l 0))))])) n l (Int.toNat (↑(Prod.snd (anyTabV n l 0)) : Int)))))])))
      (brC (srcOk n l (↑(Prod.snd (anyRowV (asTb (PV.agg [PV.str (TblT.name (Prod.fst (anyTabV n l 0))), PV.str (TblT.glob (Prod.fst (anyTabV n l 0))), PV.sl (List.length (TblT.cols (Prod.fst (anyTabV n l 0)))) (List.map PV.str (TblT.cols (Prod.fst (anyTabV n l 0)))), PV.sl (List.length (TblT.idxs (Prod.fst (anyTabV n l 0)))) (List.map PV.str (TblT.idxs (Prod.fst (anyTabV n l 0))))])) n l (Int.toNat (↑(Prod.snd (anyTabV n l 0)) : Int)))) : Int) (seedK l (Prod.snd (anyRowV (asTb (PV.agg [PV.str (TblT.name (Prod.fst (anyTabV n l 0))), PV.str (TblT.glob (Prod.fst (anyTabV n l 0))), PV.sl (List.length (TblT.cols (Prod.fst (anyTabV n l 0)))) (List.map PV.str (TblT.cols (Prod.fst (anyTabV n l 0)))), PV.sl (List.length (TblT.idxs (Prod.fst (anyTabV n l 0)))) (List.map PV.str (TblT.idxs (Prod.fst (anyTabV n l 0))))])) n l (Int.toNat (↑(Prod.snd (anyTabV n l 0)) : Int))))) && decide (5 ≤ 200) && decide (2 ≤ 5))
        (brC (pickV l (Int.toNat (↑(Prod.snd (anyRowV (asTb (PV.agg [PV.str (TblT.name (Prod.fst (anyTabV n l 0))), PV.str (TblT.glob (Prod.fst (anyTabV n l 0))), PV.sl (List.length (TblT.cols (Prod.fst (anyTabV n l 0)))) (List.map PV.str (TblT.cols (Prod.fst (anyTabV n l 0)))), PV.sl (List.length (TblT.idxs (Prod.fst (anyTabV n l 0)))) (List.map PV.str (TblT.idxs (Prod.fst (anyTabV n l 0))))])) n l (Int.toNat (↑(Prod.snd (anyTabV n l 0)) : Int)))) : Int)) 5 == 0)
          (brC (srcOk n l ((↑(Prod.snd (anyRowV (asTb (PV.agg [PV.str (TblT.name (Prod.fst (anyTabV n l 0))), PV.str (TblT.glob (Prod.fst (anyTabV n l 0))), PV.sl (List.length (TblT.cols (Prod.fst (anyTabV n l 0)))) (List.map PV.str (TblT.cols (Prod.fst (anyTabV n l 0)))), PV.sl (List.length (TblT.idxs (Prod.fst (anyTabV n l 0)))) (List.map PV.str (TblT.idxs (Prod.fst (anyTabV n l 0))))])) n l (Int.toNat (↑(Prod.snd (anyTabV n l 0)) : Int)))) : Int) + 1) (seedK l (Int.toNat (↑(Prod.snd (anyRowV (asTb (PV.agg [PV.str (TblT.name (Prod.fst (anyTabV n l 0))), PV.str (TblT.glob (Prod.fst (anyTabV n l 0))), PV.sl (List.length (TblT.cols (Prod.fst (anyTabV n l 0)))) (List.map PV.str (TblT.cols (Prod.fst (anyTabV n l 0)))), PV.sl (List.length (TblT.idxs (Prod.fst (anyTabV n l 0)))) (List.map PV.str (TblT.idxs (Prod.fst (anyTabV n l 0))))])) n l (Int.toNat (↑(Prod.snd (anyTabV n l 0)) : Int)))) : Int) + 1)) && wfT 3 [PV.str { data := #[94] }, PV.str { data := #[120] }, PV.str { data := #[10] }])
            (brC (decide (ByteArray.size (pkF (asRw (PV.agg [PV.sl (List.length (Prod.fst (anyRowV (asTb (PV.agg [PV.str (TblT.name (Prod.fst (anyTabV n l 0))), PV.str (TblT.glob (Prod.fst (anyTabV n l 0))), PV.sl (List.length (TblT.cols (Prod.fst (anyTabV n l 0)))) (List.map PV.str (TblT.cols (Prod.fst (anyTabV n l 0)))), PV.sl (List.length (TblT.idxs (Prod.fst (anyTabV n l 0)))) (List.map PV.str (TblT.idxs (Prod.fst (anyTabV n l 0))))])) n l (Int.toNat (↑(Prod.snd (anyTabV n l 0)) : Int))))) (List.map PV.str (Prod.fst (anyRowV (asTb (PV.agg [PV.str (TblT.name (Prod.fst (anyTabV n l 0))), PV.str (TblT.glob (Prod.fst (anyTabV n l 0))), PV.sl (List.length (TblT.cols (Prod.fst (anyTabV n l 0)))) (List.map PV.str (TblT.cols (Prod.fst (anyTabV n l 0)))), PV.sl (List.length (TblT.idxs (Prod.fst (anyTabV n l 0)))) (List.map PV.str (TblT.idxs (Prod.fst (anyTabV n l 0))))])) n l (Int.toNat (↑(Prod.snd (anyTabV n l 0)) : Int)))))])) (List.length (asRw (PV.agg [PV.sl (List.length (Prod.fst (anyRowV (asTb (PV.agg [PV.str (TblT.name (Prod.fst (anyTabV n l 0))), PV.str (TblT.glob (Prod.fst (anyTabV n l 0))), PV.sl (List.length (TblT.cols (Prod.fst (anyTabV n l 0)))) (List.map PV.str (TblT.cols (Prod.fst (anyTabV n l 0)))), PV.sl (List.length (TblT.idxs (Prod.fst (anyTabV n l 0)))) (List.map PV.str (TblT.idxs (Prod.fst (anyTabV n l 0))))])) n l (Int.toNat (↑(Prod.snd (anyTabV n l 0)) : Int))))) (List.map PV.str (Prod.fst (anyRowV (asTb (PV.agg [PV.str (TblT.name (Prod.fst (anyTabV n l 0))), PV.str (TblT.glob (Prod.fst (anyTabV n l 0))), PV.sl (List.length (TblT.cols (Prod.fst (anyTabV n l 0)))) (List.map PV.str (TblT.cols (Prod.fst (anyTabV n l 0)))), PV.sl (List.length (TblT.idxs (Prod.fst (anyTabV n l 0)))) (List.map PV.str (TblT.idxs (Prod.fst (anyTabV n l 0))))])) n l (Int.toNat (↑(Prod.snd (anyTabV n l 0)) : Int)))))])) - 1) 1 { data := #[] }) + ByteArray.size (textV l (Int.toNat ((↑(Prod.snd (anyRowV (asTb (PV.agg [PV.str (TblT.name (Prod.fst (anyTabV n l 0))), PV.str (TblT.glob (Prod.fst (anyTabV n l 0))), PV.sl (List.length (TblT.cols (Prod.fst (anyTabV n l 0)))) (List.map PV.str (TblT.cols (Prod.fst (anyTabV n l 0)))), PV.sl (List.length (TblT.idxs (Prod.fst (anyTabV n l 0)))) (List.map PV.str (TblT.idxs (Prod.fst (anyTabV n l 0))))])) n l (Int.toNat (↑(Prod.snd (anyTabV n l 0)) : Int)))) : Int) + 1)) [PV.str { data := #[94] }, PV.str { data := #[120] }, PV.str { data := #[10] }]) ≤ 9223372036854775807) && true)
              (brC (decide (0 ≤ 0) && decide (0 < (↑(List.length (Prod.fst (anyRowV (asTb (PV.agg [PV.str (TblT.name (Prod.fst (anyTabV n l 0))), PV.str (TblT.glob (Prod.fst (anyTabV n l 0))), PV.sl (List.length (TblT.cols (Prod.fst (anyTabV n l 0)))) (List.map PV.str (TblT.cols (Prod.fst (anyTabV n l 0)))), PV.sl (List.length (TblT.idxs (Prod.fst (anyTabV n l 0)))) (List.map PV.str (TblT.idxs (Prod.fst (anyTabV n l 0))))])) n l (Int.toNat (↑(Prod.snd (anyTabV n l 0)) : Int))))) : Int)))
                (brC (Nat.blt 0 (List.length (List.drop 0 (List.map PV.str (Prod.fst (anyRowV (asTb (PV.agg [PV.str (TblT.name (Prod.fst (anyTabV n l 0))), PV.str (TblT.glob (Prod.fst (anyTabV n l 0))), PV.sl (List.length (TblT.cols (Prod.fst (anyTabV n l 0)))) (List.map PV.str (TblT.cols (Prod.fst (anyTabV n l 0)))), PV.sl (List.length (TblT.idxs (Prod.fst (anyTabV n l 0)))) (List.map PV.str (TblT.idxs (Prod.fst (anyTabV n l 0))))])) n l (Int.toNat (↑(Prod.snd (anyTabV n l 0)) : Int))))))) && PV.isStr (List.headD (List.drop 0 (List.map PV.str (Prod.fst (anyRowV (asTb (PV.agg [PV.str (TblT.name (Prod.fst (anyTabV n l 0))), PV.str (TblT.glob (Prod.fst (anyTabV n l 0))), PV.sl (List.length (TblT.cols (Prod.fst (anyTabV n l 0)))) (List.map PV.str (TblT.cols (Prod.fst (anyTabV n l 0)))), PV.sl (List.length (TblT.idxs (Prod.fst (anyTabV n l 0)))) (List.map PV.str (TblT.idxs (Prod.fst (anyTabV n l 0))))])) n l (Int.toNat (↑(Prod.snd (anyTabV n l 0)) : Int)))))) PV.nilp) && true)
                  (some ((IV.tup [IV.agg [CV.pv (PV.str (TblT.name (Prod.fst (anyTabV n l 0)))), CV.pv (PV.str (TblT.glob (Prod.fst (anyTabV n l 0)))), CV.pv (PV.sl (List.length (TblT.cols (Prod.fst (anyTabV n l 0)))) (List.map PV.str (TblT.cols (Prod.fst (anyTabV n l 0))))), CV.pv (PV.sl (List.length (TblT.idxs (Prod.fst (anyTabV n l 0)))) (List.map PV.str (TblT.idxs (Prod.fst (anyTabV n l 0)))))], IV.cv (CV.pv (PV.str (PV.asStr (List.headD (List.drop 0 (List.map PV.str (Prod.fst (anyRowV (asTb (PV.agg [PV.str (TblT.name (Prod.fst (anyTabV n l 0))), PV.str (TblT.glob (Prod.fst (anyTabV n l 0))), PV.sl (List.length (TblT.cols (Prod.fst (anyTabV n l 0)))) (List.map PV.str (TblT.cols (Prod.fst (anyTabV n l 0)))), PV.sl (List.length (TblT.idxs (Prod.fst (anyTabV n l 0)))) (List.map PV.str (TblT.idxs (Prod.fst (anyTabV n l 0))))])) n l (Int.toNat (↑(Prod.snd (anyTabV n l 0)) : Int)))))) PV.nilp)))), IV.cv (CV.pv (PV.str (pkF (asRw (PV.agg [PV.sl (List.length (Prod.fst (anyRowV (asTb (PV.agg [PV.str (TblT.name (Prod.fst (anyTabV n l 0))), PV.str (TblT.glob (Prod.fst (anyTabV n l 0))), PV.sl (List.length (TblT.cols (Prod.fst (anyTabV n l 0)))) (List.map PV.str (TblT.cols (Prod.fst (anyTabV n l 0)))), PV.sl (List.length (TblT.idxs (Prod.fst (anyTabV n l 0)))) (List.map PV.str (TblT.idxs (Prod.fst (anyTabV n l 0))))])) n l (Int.toNat (↑(Prod.snd (anyTabV n l 0)) : Int))))) (List.map PV.str (Prod.fst (anyRowV (asTb (PV.agg [PV.str (TblT.name (Prod.fst (anyTabV n l 0))), PV.str (TblT.glob (Prod.fst (anyTabV n l 0))), PV.sl (List.length (TblT.cols (Prod.fst (anyTabV n l 0)))) (List.map PV.str (TblT.cols (Prod.fst (anyTabV n l 0)))), PV.sl (List.length (TblT.idxs (Prod.fst (anyTabV n l 0)))) (List.map PV.str (TblT.idxs (Prod.fst (anyTabV n l 0))))])) n l (Int.toNat (↑(Prod.snd (anyTabV n l 0)) : Int)))))])) (List.length (asRw (PV.agg [PV.sl (List.length (Prod.fst (anyRowV (asTb (PV.agg [PV.str (TblT.name (Prod.fst (anyTabV n l 0))), PV.str (TblT.glob (Prod.fst (anyTabV n l 0))), PV.sl (List.length (TblT.cols (Prod.fst (anyTabV n l 0)))) (List.map PV.str (TblT.cols (Prod.fst (anyTabV n l 0)))), PV.sl (List.length (TblT.idxs (Prod.fst (anyTabV n l 0)))) (List.map PV.str (TblT.idxs (Prod.fst (anyTabV n l 0))))])) n l (Int.toNat (↑(Prod.snd (anyTabV n l 0)) : Int))))) (List.map PV.str (Prod.fst (anyRowV (asTb (PV.agg [PV.str (TblT.name (Prod.fst (anyTabV n l 0))), PV.str (TblT.glob (Prod.fst (anyTabV n l 0))), PV.sl (List.length (TblT.cols (Prod.fst (anyTabV n l 0)))) (List.map PV.str (TblT.cols (Prod.fst (anyTabV n l 0)))), PV.sl (List.length (TblT.idxs (Prod.fst (anyTabV n l 0)))) (List.map PV.str (TblT.idxs (Prod.fst (anyTabV n l 0))))])) n l (Int.toNat (↑(Prod.snd (anyTabV n l 0)) : Int)))))])) - 1) 1 { data := #[] } ++ textV l (Int.toNat ((↑(Prod.snd (anyRowV (asTb (PV.agg [PV.str (TblT.name (Prod.fst (anyTabV n l 0))), PV.str (TblT.glob (Prod.fst (anyTabV n l 0))), PV.sl (List.length (TblT.cols (Prod.fst (anyTabV n l 0)))) (List.map PV.str (TblT.cols (Prod.fst (anyTabV n l 0)))), PV.sl (List.length (TblT.idxs (Prod.fst (anyTabV n l 0)))) (List.map PV.str (TblT.idxs (Prod.fst (anyTabV n l 0))))])) n l (Int.toNat (↑(Prod.snd (anyTabV n l 0)) : Int)))) : Int) + 1)) [PV.str { data := #[94] }, PV.str { data := #[120] }, PV.str { data := #[10] }])))], [])))
                  (none))
                (none))
              (none))
            (none))
          (brC (decide (0 ≤ 0) && decide (0 < (↑(List.length (Prod.fst (anyRowV (asTb (PV.agg [PV.str (TblT.name (Prod.fst (anyTabV n l 0))), PV.str (TblT.glob (Prod.fst (anyTabV n l 0))), PV.sl (List.length (TblT.cols (Prod.fst (anyTabV n l 0)))) (List.map PV.str (TblT.cols (Prod.fst (anyTabV n l 0)))), PV.sl (List.length (TblT.idxs (Prod.fst (anyTabV n l 0)))) (List.map PV.str (TblT.idxs (Prod.fst (anyTabV n l 0))))])) n l (Int.toNat (↑(Prod.snd (anyTabV n l 0)) : Int))))) : Int)))
            (brC (Nat.blt 0 (List.length (List.drop 0 (List.map PV.str (Prod.fst (anyRowV (asTb (PV.agg [PV.str (TblT.name (Prod.fst (anyTabV n l 0))), PV.str (TblT.glob (Prod.fst (anyTabV n l 0))), PV.sl (List.length (TblT.cols (Prod.fst (anyTabV n l 0)))) (List.map PV.str (TblT.cols (Prod.fst (anyTabV n l 0)))), PV.sl (List.length (TblT.idxs (Prod.fst (anyTabV n l 0)))) (List.map PV.str (TblT.idxs (Prod.fst (anyTabV n l 0))))])) n l (Int.toNat (↑(Prod.snd (anyTabV n l 0)) : Int))))))) && PV.isStr (List.headD (List.drop 0 (List.map PV.str (Prod.fst (anyRowV (asTb (PV.agg [PV.str (TblT.name (Prod.fst (anyTabV n l 0))), PV.str (TblT.glob (Prod.fst (anyTabV n l 0))), PV.sl (List.length (TblT.cols (Prod.fst (anyTabV n l 0)))) (List.map PV.str (TblT.cols (Prod.fst (anyTabV n l 0)))), PV.sl (List.length (TblT.idxs (Prod.fst (anyTabV n l 0)))) (List.map PV.str (TblT.idxs (Prod.fst (anyTabV n l 0))))])) n l (Int.toNat (↑(Prod.snd (anyTabV n l 0)) : Int)))))) PV.nilp) && true)
              (some ((IV.tup [IV.agg [CV.pv (PV.str (TblT.name (Prod.fst (anyTabV n l 0)))), CV.pv (PV.str (TblT.glob (Prod.fst (anyTabV n l 0)))), CV.pv (PV.sl (List.length (TblT.cols (Prod.fst (anyTabV n l 0)))) (List.map PV.str (TblT.cols (Prod.fst (anyTabV n l 0))))), CV.pv (PV.sl (List.length (TblT.idxs (Prod.fst (anyTabV n l 0)))) (List.map PV.str (TblT.idxs (Prod.fst (anyTabV n l 0)))))], IV.cv (CV.pv (PV.str (PV.asStr (List.headD (List.drop 0 (List.map PV.str (Prod.fst (anyRowV (asTb (PV.agg [PV.str (TblT.name (Prod.fst (anyTabV n l 0))), PV.str (TblT.glob (Prod.fst (anyTabV n l 0))), PV.sl (List.length (TblT.cols (Prod.fst (anyTabV n l 0)))) (List.map PV.str (TblT.cols (Prod.fst (anyTabV n l 0)))), PV.sl (List.length (TblT.idxs (Prod.fst (anyTabV n l 0)))) (List.map PV.str (TblT.idxs (Prod.fst (anyTabV n l 0))))])) n l (Int.toNat (↑(Prod.snd (anyTabV n l 0)) : Int)))))) PV.nilp)))), IV.cv (CV.pv (PV.str (pkF (asRw (PV.agg [PV.sl (List.length (Prod.fst (anyRowV (asTb (PV.agg [PV.str (TblT.name (Prod.fst (anyTabV n l 0))), PV.str (TblT.glob (Prod.fst (anyTabV n l 0))), PV.sl (List.length (TblT.cols (Prod.fst (anyTabV n l 0)))) (List.map PV.str (TblT.cols (Prod.fst (anyTabV n l 0)))), PV.sl (List.length (TblT.idxs (Prod.fst (anyTabV n l 0)))) (List.map PV.str (TblT.idxs (Prod.fst (anyTabV n l 0))))])) n l (Int.toNat (↑(Prod.snd (anyTabV n l 0)) : Int))))) (List.map PV.str (Prod.fst (anyRowV (asTb (PV.agg [PV.str (TblT.name (Prod.fst (anyTabV n l 0))), PV.str (TblT.glob (Prod.fst (anyTabV n l 0))), PV.sl (List.length (TblT.cols (Prod.fst (anyTabV n l 0)))) (List.map PV.str (TblT.cols (Prod.fst (anyTabV n l 0)))), PV.sl (List.length (TblT.idxs (Prod.fst (anyTabV n l 0)))) (List.map PV.str (TblT.idxs (Prod.fst (anyTabV n l 0))))])) n l (Int.toNat (↑(Prod.snd (anyTabV n l 0)) : Int)))))])) (List.length (asRw (PV.agg [PV.sl (List.length (Prod.fst (anyRowV (asTb (PV.agg [PV.str (TblT.name (Prod.fst (anyTabV n l 0))), PV.str (TblT.glob (Prod.fst (anyTabV n l 0))), PV.sl (List.length (TblT.cols (Prod.fst (anyTabV n l 0)))) (List.map PV.str (TblT.cols (Prod.fst (anyTabV n l 0)))), PV.sl (List.length (TblT.idxs (Prod.fst (anyTabV n l 0)))) (List.map PV.str (TblT.idxs (Prod.fst (anyTabV n l 0))))])) n l (Int.toNat (↑(Prod.snd (anyTabV n l 0)) : Int))))) (List.map PV.str (Prod.fst (anyRowV (asTb (PV.agg [PV.str (TblT.name (Prod.fst (anyTabV n l 0))), PV.str (TblT.glob (Prod.fst (anyTabV n l 0))), PV.sl (List.length (TblT.cols (Prod.fst (anyTabV n l 0)))) (List.map PV.str (TblT.cols (Prod.fst (anyTabV n l 0)))), PV.sl (List.length (TblT.idxs (Prod.fst (anyTabV n l 0)))) (List.map PV.str (TblT.idxs (Prod.fst (anyTabV n l 0))))])) n l (Int.toNat (↑(Prod.snd (anyTabV n l 0)) : Int)))))])) - 1) 1 { data := #[] })))], [])))
              (none))
            (none)))
        (none))
      (none))
    (none))
  (none) := by kernel_rfl
end

section
open Go.RowKit
set_option linter.unusedVariables false
set_option linter.unusedSimpArgs false
set_option maxRecDepth 100000

theorem ok_peb0 : EntriesOk Tryz.prog peb0 := ⟨ok_one, ok_text, ok_dab1⟩
theorem ok_Key29 : EntryOk Tryz.prog 167 E_Key29 := entry_of mix ok_peb0 (lp := []) (LO := LO0) ⟨Tryz.func167, by kernel_rfl, by kernel_rfl⟩ (by kernel_rfl) fun ivs res bxs h => by
  unfold E_Key29 at h
  split at h
  · rename_i n l a g
    obtain ⟨hc, he⟩ := pick1 h
    cases he
    refine ⟨noLoop (by kernel_rfl), (q_Key29_eq n l a g).trans ?_⟩
    rw [hc]
    rfl
  · cases h
theorem tab_draw : DrawOk (fun n l k => q_Tab29 brC n l k (seedK l k)) tbEnc tbR 10 400000 := by
  intro n l k hw hn hk
  have tree := q_Tab29_eq n l k (seedK l k)
  have s0 := srcOk_mk hw (show k ≤ 1048576 by omega) hn
  have e1 : (k : Int) + 1 = ((k + 1 : Nat) : Int) := by omega
  simp only [Int.toNat_natCast, e1, s0] at tree
  cases h0 : (pickV l k 4 == 0) with
  | true =>
    rw [h0] at tree
    exact ⟨⟨⟨#[87, 65, 82, 68]⟩, ⟨#[87]⟩, [⟨#[105, 100]⟩, ⟨#[110, 97, 109, 101]⟩, ⟨#[98, 101, 100]⟩, ⟨#[100, 114]⟩], [⟨#[98, 101, 100]⟩, ⟨#[100, 114]⟩]⟩, k + 1, by omega, by omega, by unfold tbR few20; decide, tree.trans rfl⟩
  | false =>
    rw [h0] at tree
    cases h1 : (pickV l k 4 == 1) with
    | true =>
      rw [h1] at tree
      exact ⟨⟨⟨#[87, 65, 82, 68]⟩, ⟨#[87]⟩, [⟨#[105, 100]⟩], []⟩, k + 1, by omega, by omega, by unfold tbR few20; decide, tree.trans rfl⟩
    | false =>
      rw [h1] at tree
      cases h2 : (pickV l k 4 == 2) with
      | true =>
        rw [h2] at tree
        exact ⟨⟨⟨#[87, 65, 82, 68]⟩, ⟨#[87]⟩, [⟨#[105, 100]⟩, ⟨#[110, 97, 109, 101]⟩], [⟨#[110, 97, 109, 101]⟩]⟩, k + 1, by omega, by omega, by unfold tbR few20; decide, tree.trans rfl⟩
      | false =>
        rw [h2] at tree
        exact ⟨⟨⟨#[87, 65, 82, 68]⟩, ⟨#[87]⟩, [⟨#[105, 100]⟩, ⟨#[110, 97, 109, 101]⟩, ⟨#[98, 101, 100]⟩, ⟨#[100, 114]⟩], [⟨#[110, 97, 109, 101]⟩]⟩, k + 1, by omega, by omega, by unfold tbR few20; decide, tree.trans rfl⟩
theorem ok_Tab29 : EntryOk Tryz.prog 102 E_Tab29 := entry_of mix ok_peb0 (lp := [(1000000, [], [25])]) (LO := LO0) ⟨Tryz.func102, by kernel_rfl, by kernel_rfl⟩ (by kernel_rfl) fun ivs res bxs h => by
  unfold E_Tab29 at h
  split at h
  · rename_i n l a g
    obtain ⟨hc, he⟩ := pick1 h
    cases he
    simp only [Bool.and_eq_true, decide_eq_true_eq] at hc
    obtain ⟨k, rfl, hk, hn, rfl, hw⟩ := srcOk_inv hc.1
    refine ⟨noLoop (by kernel_rfl), ?_⟩
    rw [Int.toNat_natCast]
    exact (drawV_ok tab_draw hw hn (by omega)).2.2.2
  · cases h
theorem ok_peb1 : EntriesOk Tryz.prog peb1 := ⟨ok_Tab29, ok_Key29, ok_peb0⟩
theorem few20_snoc {xs : List ByteArray} {m : Nat} {x : ByteArray} (h : few20 xs m) (hx : x.size ≤ 20) : few20 (xs ++ [x]) (m + 1) := ⟨by
  rw [List.length_append, List.length_singleton]
  have := h.1
  omega, fun y hy => by
  rcases List.mem_append.1 hy with hy | hy
  · exact h.2 y hy
  · rw [List.mem_singleton.1 hy]; exact hx⟩
theorem few20.up {xs : List ByteArray} {m : Nat} (h : few20 xs m) : few20 xs (m + 1) := ⟨Nat.le_succ_of_le h.1, h.2⟩
theorem few20_nil (m : Nat) : few20 [] m := ⟨Nat.zero_le _, fun y hy => by cases hy⟩
theorem few20.shL {xs : List ByteArray} {m : Nat} (h : few20 xs m) (hm : m ≤ 1000) : shL xs := ⟨by have := h.1; omega, fun x hx => Nat.le_trans (h.2 x hx) (by omega)⟩
theorem pL_snoc (xs : List ByteArray) (x : ByteArray) : PV.sl (xs.length + 1) (xs.map PV.str ++ [PV.str x]) = pL (xs ++ [x]) := by
  show _ = PV.sl (xs ++ [x]).length ((xs ++ [x]).map .str)
  rw [List.length_append, List.map_append]
  rfl
theorem anyTab_draw : DrawOk (fun n l k => q_AnyTab brC n l k (seedK l k)) tpEnc tpR 20 300000 := by
  intro n l k hw hn hk
  have tree := q_AnyTab_eq n l k (seedK l k)
  have s0 := srcOk_mk hw (show k ≤ 1048576 by omega) hn
  obtain ⟨t1, t2, ⟨t3, t4, t5, t6⟩, _⟩ := drawV_ok tab_draw hw hn (k := k) (by omega)
  rw [Int.toNat_natCast, s0, dT (show (k : Int) ≤ 400000 by omega)] at tree
  generalize hT1 : (tab29V n l k).1 = b at tree
  generalize hT2 : (tab29V n l k).2 = k1 at tree
  rw [hT2] at t1 t2
  rw [hT1] at t3 t4 t5 t6
  have s1 := srcOk_mk hw (show k1 ≤ 1048576 by omega) hn
  have s2 := srcOk_mk hw (show k1 + 1 ≤ 1048576 by omega) hn
  have e1 : (k1 : Int) + 1 = ((k1 + 1 : Nat) : Int) := by omega
  have e2 : ((k1 + 1 : Nat) : Int) + 1 = ((k1 + 2 : Nat) : Int) := by omega
  have c1 := t5.1
  have c2 := t6.1
  simp (disch := first | omega | rfl) only [Int.toNat_natCast, e1, e2, s1, s2, wfT_mk, dT, pL_snoc] at tree
  cases h0 : (pickV l k1 14 == 0) with
  | true =>
    rw [h0] at tree
    refine ⟨⟨b.name, b.glob, b.cols ++ [textV l (k1 + 1) [PV.str { data := #[105, 100] }, PV.str { data := #[120] }, PV.str { data := #[49] }, PV.str { data := #[121] }]], b.idxs⟩, k1 + 2, by omega, by omega, ⟨t3, t4, few20_snoc t5 (Nat.le_trans (text_size (m := 2) (by decide) l (k1 + 1)) (by omega)), t6.up⟩, tree.trans rfl⟩
  | false =>
    rw [h0] at tree
    cases h1 : (pickV l k1 14 == 1) with
    | true =>
      rw [h1] at tree
      refine ⟨⟨b.name, b.glob, b.cols, b.idxs ++ [textV l (k1 + 1) [PV.str { data := #[105, 100] }, PV.str { data := #[110, 97, 109, 101] }, PV.str { data := #[100, 114] }]]⟩, k1 + 2, by omega, by omega, ⟨t3, t4, t5.up, few20_snoc t6 (Nat.le_trans (text_size (m := 4) (by decide) l (k1 + 1)) (by omega))⟩, tree.trans rfl⟩
    | false =>
      rw [h1] at tree
      cases h2 : (pickV l k1 14 == 2) with
      | true =>
        rw [h2] at tree
        exact ⟨⟨b.name, textV l (k1 + 1) [PV.str { data := #[] }, PV.str { data := #[87, 50] }, PV.str { data := #[57] }], b.cols, b.idxs⟩, k1 + 2, by omega, by omega, ⟨t3, Nat.le_trans (text_size (m := 2) (by decide) l (k1 + 1)) (by omega), t5.up, t6.up⟩, tree.trans rfl⟩
      | false =>
        rw [h2] at tree
        cases h3 : (pickV l k1 14 == 3) with
        | true =>
          rw [h3] at tree
          exact ⟨⟨b.name, b.glob, [], b.idxs⟩, k1 + 1, by omega, by omega, ⟨t3, t4, few20_nil _, t6.up⟩, tree.trans rfl⟩
        | false =>
          rw [h3] at tree
          exact ⟨b, k1 + 1, by omega, by omega, ⟨t3, t4, t5.up, t6.up⟩, tree.trans rfl⟩
theorem ok_AnyTab : EntryOk Tryz.prog 50 E_AnyTab := entry_of mix ok_peb1 (lp := [(1000000, [], [11, 21])]) (LO := LO0) ⟨Tryz.func50, by kernel_rfl, by kernel_rfl⟩ (by kernel_rfl) fun ivs res bxs h => by
  unfold E_AnyTab at h
  split at h
  · rename_i n l a g
    obtain ⟨hc, he⟩ := pick1 h
    cases he
    simp only [Bool.and_eq_true, decide_eq_true_eq] at hc
    obtain ⟨k, rfl, hk, hn, rfl, hw⟩ := srcOk_inv hc.1
    refine ⟨noLoop (by kernel_rfl), ?_⟩
    rw [Int.toNat_natCast]
    exact (drawV_ok anyTab_draw hw hn (by omega)).2.2.2
  · cases h
/-! Rows. -/
theorem drK_len (l : List PV) : ∀ m k, (drK l m k).length = m
  | 0, _ => rfl
  | m + 1, k => by unfold drK; rw [List.length_cons, drK_len l m]
theorem drK_sz (l : List PV) : ∀ m k, ∀ x ∈ drK l m k, x.size ≤ 20
  | 0, _, x, h => by cases h
  | m + 1, k, x, h => by
    unfold drK at h
    rcases List.mem_cons.1 h with rfl | h
    · exact Nat.le_trans (text_size (m := 3) (by decide) l k) (by omega)
    · exact drK_sz l m _ x h
theorem rowD_len (l : List PV) (k m : Nat) : (rowD l k m).length = 1 + m := by
  rw [rowD_eq, List.length_cons, drK_len, Nat.add_comm]
theorem rowD_few (l : List PV) (k m : Nat) (hm : m ≤ 10) : few20 (rowD l k m) 11 := ⟨by rw [rowD_len]; omega, fun x hx => by
  rw [rowD_eq] at hx
  rcases List.mem_cons.1 hx with rfl | hx
  · exact Nat.le_trans (text_size (m := 2) (by decide) l k) (by omega)
  · exact drK_sz l _ _ x hx⟩
theorem DrawRow_loop (n : Nat) (l : List PV) (hw : wfB n l = true) (hn : n ≤ 1048577) (s h : ByteArray) (xs : List ByteArray) (q : PV) (hx : xs.length ≤ 10) : ∀ (m i k cn : Nat) (cl : List PV), m = xs.length - i → k + m ≤ 1048000 → cn ≤ i →
    LoopsTo (rdB brC Tryz.prog peb1 lp_DrawRow LO_DrawRow Tryz.f103 3 [0]) [aB0 (sx n l k (seedK l k)), aBx 3 [.pv (.str s), .pv (.str h), .pv (pL xs), .pv q], aBx 4 [.pv .nils], aBx 5 [.lst 1 9 cn cl true], aI i]
      (.exit 0, [aB0 (sx n l ((k + m : Nat) : Int) (seedK l (k + m))), aBx 4 [.pv .nils], aBx 5 [.lst 1 9 (cn + m) (cl ++ (drK l m k).map .str) true]]) := by
  intro m
  induction m with
  | zero =>
    intro i k cn cl hm hk hc
    refine .done _ _ ((r_DrawRow_eq n l k (seedK l k) s h xs q cn cl i).trans ?_)
    rw [dF (show ¬ (i : Int) < (xs.length : Int) by omega)]
    show some _ = some _
    rw [show drK l 0 k = [] from rfl, List.map_nil, List.append_nil]
    rfl
  | succ m ih =>
    intro i k cn cl hm hk hc
    have tree := r_DrawRow_eq n l k (seedK l k) s h xs q cn cl i
    have s0 := srcOk_mk hw (show k ≤ 1048576 by omega) hn
    have e1 : (k : Int) + 1 = ((k + 1 : Nat) : Int) := by omega
    have b1 : ∀ x : PV, Nat.beq (List.length [x]) (1 * 1) = true := fun _ => rfl
    simp (disch := first | omega | rfl) only [Int.toNat_natCast, e1, s0, wfT_mk, b1, dT, wrap1, Bool.and_true, Bool.true_and] at tree
    have ih' := ih (i + 1) (k + 1) (cn + 1) (cl ++ [PV.str (textV l k cell29)]) (by omega) (by omega) (by omega)
    rw [List.append_assoc, List.singleton_append, show k + 1 + m = k + (m + 1) by omega, show cn + 1 + m = cn + (m + 1) by omega] at ih'
    exact .step _ _ _ tree ih'
theorem ok_DrawRow : EntryOk Tryz.prog 103 E_DrawRow := entry_of mix ok_peb1 (lp := lp_DrawRow) (LO := LO_DrawRow) ⟨Tryz.func103, by kernel_rfl, by kernel_rfl⟩ (by kernel_rfl) fun ivs res bxs h => by
  unfold E_DrawRow at h
  split at h
  · rename_i n l a g p
    obtain ⟨hc, he⟩ := pick1 h
    cases he
    simp only [Bool.and_eq_true, decide_eq_true_eq] at hc
    obtain ⟨⟨⟨h1, h2⟩, h3⟩, h4⟩ := hc
    obtain ⟨b, rfl, hb⟩ := isTb_inv h2
    have e4 : asTb (pTb b) = b := asTb_mk b
    rw [e4] at h3 ⊢
    obtain ⟨k, rfl, hk, hn, rfl, hw⟩ := srcOk_inv h1
    rw [Int.toNat_natCast]
    refine ⟨oneLoop 3 (by kernel_rfl) (by kernel_rfl) (by kernel_rfl) ?_, ?_⟩
    · intro ls e ls' hl
      unfold LO_DrawRow at hl
      split at hl
      · rename_i n l a g x s h p q y z e cn cl i
        obtain ⟨hc, he⟩ := pick1 hl
        cases he
        simp only [Bool.and_eq_true, decide_eq_true_eq, beq_iff_eq] at hc
        obtain ⟨⟨⟨⟨⟨⟨⟨⟨⟨h1, h2⟩, h3⟩, h4⟩, h5⟩, h6⟩, h7⟩, h8⟩, h9⟩, h10⟩ := hc
        obtain ⟨k, rfl, hk, hn, rfl, hw⟩ := srcOk_inv h1
        obtain ⟨xs, rfl, hx⟩ := isL_inv h2
        have e1 : asL (pL xs) = xs := asL_mk xs
        rw [e1] at h9 ⊢
        rw [Nat.eq_of_beq_eq_true h3, Nat.eq_of_beq_eq_true h4, Nat.eq_of_beq_eq_true h5, Nat.eq_of_beq_eq_true h6, Nat.eq_of_beq_eq_true h7, h8, Int.toNat_natCast]
        have := DrawRow_loop n l hw hn s h xs q h9 (xs.length - 1) 1 k 1 cl rfl (by omega) (Nat.le_refl _)
        have e2 : (k : Int) + ((xs.length - 1 : Nat) : Int) = ((k + (xs.length - 1) : Nat) : Int) := by omega
        rw [e2]
        exact this
      · cases hl
    · have tree := q_DrawRow_eq n l k (seedK l k) b
      have s0 := srcOk_mk hw (show k ≤ 1048576 by omega) hn
      have s1 := srcOk_mk hw (show k + 1 ≤ 1048576 by omega) hn
      have e1 : (k : Int) + 1 = ((k + 1 : Nat) : Int) := by omega
      have f1 : isL (pL b.cols) = true := isL_mk hb.2.2.1
      have f2 : asL (pL b.cols) = b.cols := asL_mk b.cols
      have e3 : ((k + 1 : Nat) : Int) + ((b.cols.length - 1 : Nat) : Int) = ((k + 1 + (b.cols.length - 1) : Nat) : Int) := by omega
      rw [f2] at tree
      simp only [Int.toNat_natCast, e1, e3, s0, s1, f1, dT h3, dT (show ((k + 1 : Nat) : Int) ≤ 1000000 by omega)] at tree
      rw [rowD_len, rowD_eq]
      exact tree.trans rfl
  · cases h
theorem ok_peb2 : EntriesOk Tryz.prog peb2 := ⟨ok_DrawRow, ok_peb1⟩
theorem take_set (xs : List ByteArray) (J : Nat) (t : ByteArray) (h : J < xs.length) : List.take (J * 1) (xs.map PV.str) ++ [PV.str t] ++ List.drop (J * 1 + 1) (xs.map PV.str) = (xs.take J ++ [t] ++ xs.drop (J + 1)).map PV.str ∧ xs.length = (xs.take J ++ [t] ++ xs.drop (J + 1)).length := by
  refine ⟨by rw [Nat.mul_one, List.map_append, List.map_append, List.map_take, List.map_drop]; rfl, ?_⟩
  rw [List.length_append, List.length_append, List.length_take, List.length_drop, List.length_singleton]
  omega
theorem anyRow_draw (b : TblT) (hb : shTb b) (hb2 : b.cols.length ≤ 10) : DrawOk (fun n l k => q_AnyRow brC n l k (seedK l k) b) arEnc arR 20 300000 := by
  intro n l k hw hn hk
  have tree := q_AnyRow_eq n l k (seedK l k) b
  have s0 := srcOk_mk hw (show k ≤ 1048576 by omega) hn
  have f1 : isTb (PV.agg [PV.str b.name, PV.str b.glob, PV.sl b.cols.length (b.cols.map PV.str), PV.sl b.idxs.length (b.idxs.map PV.str)]) = true := isTb_mk hb
  have f3 : asTb (PV.agg [PV.str b.name, PV.str b.glob, PV.sl b.cols.length (b.cols.map PV.str), PV.sl b.idxs.length (b.idxs.map PV.str)]) = b := asTb_mk b
  rw [Int.toNat_natCast, f1, f3, s0, dT hb2, dT (show (k : Int) ≤ 400000 by omega)] at tree
  have r1 := rowD_len l k (b.cols.length - 1)
  have r2 := rowD_few l k (b.cols.length - 1) (by omega)
  obtain ⟨k1, hk1⟩ : ∃ k1, k1 = k + 1 + (b.cols.length - 1) := ⟨_, rfl⟩
  rw [← hk1, Int.toNat_natCast] at tree
  generalize rowD l k (b.cols.length - 1) = R at tree r1 r2
  have s1 := srcOk_mk hw (show k1 ≤ 1048576 by omega) hn
  have s2 := srcOk_mk hw (show k1 + 1 ≤ 1048576 by omega) hn
  have s3 := srcOk_mk hw (show k1 + 2 ≤ 1048576 by omega) hn
  have e1 : (k1 : Int) + 1 = ((k1 + 1 : Nat) : Int) := by omega
  have e2 : ((k1 + 1 : Nat) : Int) + 1 = ((k1 + 2 : Nat) : Int) := by omega
  have e3 : ((k1 + 2 : Nat) : Int) + 1 = ((k1 + 3 : Nat) : Int) := by omega
  have e2' : k1 + 1 + 1 = k1 + 2 := rfl
  have e3' : k1 + 2 + 1 = k1 + 3 := rfl
  have c1 := r2.1
  have hz : ∀ (t : ByteArray) (k' : Nat), t.size ≤ 20 → k ≤ k' → k' ≤ k + 20 → ∀ xs : List ByteArray, xs.length ≤ 12 → 1 ≤ xs.length → (∀ x ∈ xs, x = t ∨ x ∈ R) → q_AnyRow brC n l k (seedK l k) b = some (arEnc xs, [sk n l k']) → ∃ (r : List ByteArray) (k' : Nat), k ≤ k' ∧ k' ≤ k + 20 ∧ arR r ∧ q_AnyRow brC n l k (seedK l k) b = some (arEnc r, [sk n l k']) := fun t k' ht h1 h2 xs h3 h4 h5 h6 =>
    ⟨xs, k', h1, h2, ⟨h4, h3, fun x hx => by
      rcases h5 x hx with rfl | h
      · exact ht
      · exact r2.2 x h⟩, h6⟩
  have htx : ∀ j, (textV l j [PV.str { data := #[] }, PV.str { data := #[97, 94, 98] }, PV.str { data := #[116, 119, 101, 108, 118, 101, 32, 98, 121, 116, 101, 115] }, PV.str { data := #[101, 108, 101, 118, 101, 110, 32, 98, 121, 116, 101] }, PV.str { data := #[9] }]).size ≤ 20 := fun j => Nat.le_trans (text_size (m := 12) (by decide) l j) (by omega)
  have b1 : ∀ x : PV, Nat.beq (List.length [x]) 1 = true := fun _ => rfl
  have b2 : Nat.beq 1 1 = true := rfl
  have b3 : Nat.ble 1 (R.map PV.str).length = true := Nat.ble_eq_true_of_le (by rw [List.length_map]; omega)
  rw [s1] at tree
  simp (disch := first | omega | rfl) only [Int.toNat_natCast, e1, e2, e3, e2', e3', s2, s3, wfT_mk, b1, b2, b3, dT, Bool.and_true, Bool.true_and] at tree
  cases h0 : (pickV l k1 12 == 0) with
  | true =>
    rw [h0] at tree
    refine hz ⟨#[122]⟩ (k1 + 1) (by decide) (by omega) (by omega) (R ++ [⟨#[122]⟩]) (by rw [List.length_append, List.length_singleton]; omega) (by rw [List.length_append, List.length_singleton]; omega) (fun x hx => ?_) ?_
    · rcases List.mem_append.1 hx with h | h
      · exact .inr h
      · exact .inl (List.mem_singleton.1 h)
    · unfold arEnc
      rw [List.length_append, List.map_append]
      exact tree.trans rfl
  | false =>
    rw [h0] at tree
    cases h1 : (pickV l k1 12 == 1) with
    | false =>
      rw [h1] at tree
      exact hz ⟨#[]⟩ (k1 + 1) (by decide) (by omega) (by omega) R (by omega) (by omega) (fun x hx => .inr hx) (tree.trans rfl)
    | true =>
      rw [h1] at tree
      by_cases hl : R.length ≤ 1
      · rw [dT (show (R.length : Int) ≤ 1 by omega)] at tree
        have hlen : R.length = (textV l (k1 + 1) [PV.str { data := #[] }, PV.str { data := #[97, 94, 98] }, PV.str { data := #[116, 119, 101, 108, 118, 101, 32, 98, 121, 116, 101, 115] }, PV.str { data := #[101, 108, 101, 118, 101, 110, 32, 98, 121, 116, 101] }, PV.str { data := #[9] }] :: R.drop 1).length := by rw [List.length_cons, List.length_drop]; omega
        refine hz _ (k1 + 2) (htx (k1 + 1)) (by omega) (by omega) (_ :: R.drop 1) (by rw [← hlen]; omega) (by rw [← hlen]; omega) (fun x hx => ?_) ?_
        · rcases List.mem_cons.1 hx with h | h
          · exact .inl h
          · exact .inr (List.mem_of_mem_drop h)
        · unfold arEnc
          rw [← hlen, List.map_cons, List.map_drop]
          exact tree.trans rfl
      · obtain ⟨g1, g2⟩ := pickV_range hw (k1 + 1) (m := (R.length : Int)) (by omega)
        obtain ⟨J, hJ⟩ := Int.eq_ofNat_of_zero_le g1
        rw [hJ] at tree g2
        have hJ2 : J < R.length := by omega
        obtain ⟨q1, q2⟩ := take_set R J (textV l (k1 + 2) [PV.str { data := #[] }, PV.str { data := #[97, 94, 98] }, PV.str { data := #[116, 119, 101, 108, 118, 101, 32, 98, 121, 116, 101, 115] }, PV.str { data := #[101, 108, 101, 118, 101, 110, 32, 98, 121, 116, 101] }, PV.str { data := #[9] }]) hJ2
        have b4 : Nat.ble (J * 1 + 1) (R.map PV.str).length = true := Nat.ble_eq_true_of_le (by rw [List.length_map]; omega)
        rw [dF (show ¬ (R.length : Int) ≤ 1 by omega)] at tree
        simp (disch := omega) only [Int.toNat_natCast, b4, dT, Bool.and_true, Bool.true_and] at tree
        refine hz _ (k1 + 3) (htx (k1 + 2)) (by omega) (by omega) (R.take J ++ [_] ++ R.drop (J + 1)) (by rw [← q2]; omega) (by rw [← q2]; omega) (fun x hx => ?_) ?_
        · rcases List.mem_append.1 hx with h | h
          · rcases List.mem_append.1 h with h | h
            · exact .inr (List.mem_of_mem_take h)
            · exact .inl (List.mem_singleton.1 h)
          · exact .inr (List.mem_of_mem_drop h)
        · unfold arEnc
          rw [← q1, ← q2]
          exact tree.trans rfl
theorem ok_AnyRow : EntryOk Tryz.prog 51 E_AnyRow := entry_ofM mix ok_peb2 (lp := [(1000000, [], [14, 31]), (2000020, [5, 0, 21], [])]) (LO := LO0) ⟨Tryz.func51, by kernel_rfl, by kernel_rfl⟩ (by kernel_rfl) fun ivs res bxs h => by
  unfold E_AnyRow at h
  split at h
  · rename_i n l a g p
    obtain ⟨hc, he⟩ := pick1 h
    cases he
    simp only [Bool.and_eq_true, decide_eq_true_eq] at hc
    obtain ⟨⟨⟨h1, h2⟩, h3⟩, h4⟩ := hc
    obtain ⟨b, rfl, hb⟩ := isTb_inv h2
    have e4 : asTb (pTb b) = b := asTb_mk b
    rw [e4] at h3 ⊢
    obtain ⟨k, rfl, hk, hn, rfl, hw⟩ := srcOk_inv h1
    rw [Int.toNat_natCast]
    exact ⟨noLoop (by kernel_rfl), _, (drawV_ok (anyRow_draw b hb h3) hw hn (by omega)).2.2.2, rfl, rfl⟩
  · cases h
/-! Packing. -/
theorem allS_few {cs : List ByteArray} (h : allS cs = true) : ∀ x ∈ cs, x.size ≤ 20 := fun x hx => of_decide_eq_true (List.all_eq_true.1 h x hx)
theorem few_allS {cs : List ByteArray} {m : Nat} (h : few20 cs m) : allS cs = true := List.all_eq_true.2 fun x hx => decide_eq_true (h.2 x hx)
theorem Pk_loop (cs : List ByteArray) (hc : ∀ x ∈ cs, x.size ≤ 20) (hl : cs.length ≤ 12) : ∀ (m i : Nat) (t : ByteArray), m = cs.length - i → 1 ≤ i → t.size ≤ 30 * i →
    LoopsTo (rdB brC Tryz.prog [] lp_Pk LO_Pk Tryz.f58 3 []) [aBx 1 [.pv (pL cs)], aS t, aI i] (.exit 0, [aS (pkF cs m i t)]) := by
  intro m
  induction m with
  | zero =>
    intro i t hm hi ht
    refine .done _ _ ((r_Pk_eq cs t i).trans ?_)
    rw [dF (show ¬ (i : Int) < (cs.length : Int) by omega)]
    rfl
  | succ m ih =>
    intro i t hm hi ht
    have hi' : i < cs.length := by omega
    have tree := r_Pk_eq cs t i
    have hz := hc cs[i] (List.getElem_mem hi')
    have e1 : cs.getD i ⟨#[]⟩ = cs[i] := by rw [List.getD_eq_getElem?_getD, List.getElem?_eq_getElem hi', Option.getD_some]
    have a1 := app_size t ⟨#[94]⟩
    have a2 : (⟨#[94]⟩ : ByteArray).size = 1 := rfl
    unfold pkF
    rw [e1]
    by_cases h1 : 1 < i
    · rw [dT (show (i : Int) > 1 by omega)] at tree
      simp (disch := omega) only [dT, Int.toNat_natCast, drop_strs cs i hi', List.length_cons, List.headD_cons, PV.isStr, PV.asStr, blt0, wrap1, Bool.and_true, Bool.true_and] at tree
      rw [if_pos h1]
      exact .step _ _ _ tree (ih (i + 1) _ (by omega) (by omega) (by rw [app_size]; omega))
    · rw [dF (show ¬ (i : Int) > 1 by omega)] at tree
      simp (disch := omega) only [dT, Int.toNat_natCast, drop_strs cs i hi', List.length_cons, List.headD_cons, PV.isStr, PV.asStr, blt0, wrap1, Bool.and_true, Bool.true_and] at tree
      rw [if_neg h1]
      exact .step _ _ _ tree (ih (i + 1) _ (by omega) (by omega) (by rw [app_size]; omega))
theorem pkF_size (cs : List ByteArray) (hc : ∀ x ∈ cs, x.size ≤ 20) : ∀ (m i : Nat) (t : ByteArray), (pkF cs m i t).size ≤ t.size + 30 * m
  | 0, _, t => by unfold pkF; omega
  | m + 1, i, t => by
    unfold pkF
    have h := pkF_size cs hc m (i + 1) ((if 1 < i then t ++ ⟨#[94]⟩ else t) ++ cs.getD i ⟨#[]⟩)
    rw [app_size] at h
    have hd : (cs.getD i ⟨#[]⟩).size ≤ 20 := by
      rw [List.getD_eq_getElem?_getD]
      rcases Nat.lt_or_ge i cs.length with hi | hi
      · rw [List.getElem?_eq_getElem hi]
        exact hc _ (List.getElem_mem hi)
      · rw [List.getElem?_eq_none hi]
        exact Nat.zero_le _
    have ht : (if 1 < i then t ++ ⟨#[94]⟩ else t).size ≤ t.size + 1 := by
      split
      · rw [app_size]
        exact Nat.le_refl _
      · omega
    omega
theorem ok_Pk : EntryOk Tryz.prog 58 E_Pk := entry_of mix (tab := []) trivial (lp := lp_Pk) (LO := LO_Pk) ⟨Tryz.func58, by kernel_rfl, by kernel_rfl⟩ (by kernel_rfl) fun ivs res bxs h => by
  unfold E_Pk at h
  split at h
  · rename_i q
    obtain ⟨hc, he⟩ := pick1 h
    cases he
    simp only [Bool.and_eq_true, decide_eq_true_eq] at hc
    obtain ⟨⟨h1, h2⟩, h3⟩ := hc
    obtain ⟨cs, rfl, hs⟩ := isRw_inv h1
    have e5 : asRw (pRw cs) = cs := asRw_mk cs
    rw [e5] at h2 h3 ⊢
    refine ⟨oneLoop 3 (by kernel_rfl) (by kernel_rfl) (by kernel_rfl) ?_, (q_Pk_eq cs).trans ?_⟩
    · intro ls e ls' hl
      unfold LO_Pk at hl
      split at hl
      · rename_i x p t i
        obtain ⟨hc, he⟩ := pick1 hl
        cases he
        simp only [Bool.and_eq_true, decide_eq_true_eq, beq_iff_eq] at hc
        obtain ⟨⟨⟨⟨⟨h1, h2⟩, h3⟩, h4⟩, h5⟩, h6⟩ := hc
        obtain ⟨ys, rfl, hy⟩ := isL_inv h1
        have e1 : asL (pL ys) = ys := asL_mk ys
        rw [e1] at h5 h6 ⊢
        rw [Nat.eq_of_beq_eq_true h2, h3]
        exact Pk_loop ys (allS_few h6) h5 (ys.length - 1) 1 t rfl (Nat.le_refl _) (by omega)
      · cases hl
    · have f1 : isL (pL cs) = true := isL_mk hs
      have f2 : asL (pL cs) = cs := asL_mk cs
      rw [f1, f2, h3, dT h2]
      rfl
  · cases h
theorem ok_peb3 : EntriesOk Tryz.prog peb3 := ⟨ok_AnyTab, ok_AnyRow, ok_Pk, ok_peb0⟩
/-! What the law draws. -/
theorem tpR.sh {b : TblT} (h : tpR b) : shTb b := ⟨Nat.le_trans h.1 (by omega), Nat.le_trans h.2.1 (by omega), h.2.2.1.shL (by omega), h.2.2.2.shL (by omega)⟩
theorem dp_facts {n : Nat} {l : List PV} (hw : wfB n l = true) (hn : n ≤ 1048577) : tpR (dpT n l) ∧ arR (dpC n l) ∧ (anyTabV n l 0).2 ≤ 20 ∧ duK n l ≤ 40 := by
  obtain ⟨t1, t2, t3, _⟩ := drawV_ok anyTab_draw hw hn (k := 0) (by omega)
  have t4 : (dpT n l).cols.length ≤ 10 := Nat.le_trans t3.2.2.1.1 (by omega)
  have t5 : (anyTabV n l 0).2 ≤ 20 := t2
  obtain ⟨u1, u2, u3, _⟩ := drawV_ok (anyRow_draw (dpT n l) t3.sh t4) hw hn (k := (anyTabV n l 0).2) (Nat.le_trans t5 (by omega))
  exact ⟨t3, u3, t5, Nat.le_trans u2 (Nat.add_le_add_right t5 20)⟩
theorem ok_DPR : EntryOk Tryz.prog 11 E_DPR := entry_of mix ok_peb3 (lp := []) (LO := LO0) ⟨Tryz.func11, by kernel_rfl, by kernel_rfl⟩ (by kernel_rfl) fun ivs res bxs h => by
  unfold E_DPR at h
  split at h
  · rename_i n l
    obtain ⟨hc, he⟩ := pick1 h
    cases he
    simp only [Bool.and_eq_true, decide_eq_true_eq] at hc
    obtain ⟨hw, hn⟩ := hc
    obtain ⟨g1, g2, g3, g4⟩ := dp_facts hw hn
    have tree := q_DPR_eq n l
    have s0 : srcOk n l 0 0 = true := srcOk_mk (k := 0) hw (by omega) hn
    have s1 := srcOk_mk (k := (anyTabV n l 0).2) hw (by omega) hn
    have f1 : isTb (PV.agg [PV.str (dpT n l).name, PV.str (dpT n l).glob, PV.sl (dpT n l).cols.length ((dpT n l).cols.map PV.str), PV.sl (dpT n l).idxs.length ((dpT n l).idxs.map PV.str)]) = true := isTb_mk g1.sh
    have f3 : asTb (PV.agg [PV.str (dpT n l).name, PV.str (dpT n l).glob, PV.sl (dpT n l).cols.length ((dpT n l).cols.map PV.str), PV.sl (dpT n l).idxs.length ((dpT n l).idxs.map PV.str)]) = dpT n l := asTb_mk (dpT n l)
    have c1 := g1.2.2.1.1
    refine ⟨noLoop (by kernel_rfl), ?_⟩
    rw [f1, f3, s0, s1, dT (show (dpT n l).cols.length ≤ 10 by omega), dT (show ((anyTabV n l 0).2 : Int) ≤ 300000 by omega)] at tree
    exact tree.trans rfl
  · cases h
theorem ok_DUR : EntryOk Tryz.prog 15 E_DUR := entry_of mix ok_peb3 (lp := []) (LO := LO0) ⟨Tryz.func15, by kernel_rfl, by kernel_rfl⟩ (by kernel_rfl) fun ivs res bxs h => by
  unfold E_DUR at h
  split at h
  · rename_i n l
    obtain ⟨hc, he⟩ := pick1 h
    cases he
    simp only [Bool.and_eq_true, decide_eq_true_eq] at hc
    obtain ⟨hw, hn⟩ := hc
    obtain ⟨g1, g2, g3, g4⟩ := dp_facts hw hn
    have tree := q_DUR_eq n l
    have s0 : srcOk n l 0 0 = true := srcOk_mk (k := 0) hw (by omega) hn
    have s1 := srcOk_mk (k := (anyTabV n l 0).2) hw (by omega) hn
    have f1 : isTb (PV.agg [PV.str (dpT n l).name, PV.str (dpT n l).glob, PV.sl (dpT n l).cols.length ((dpT n l).cols.map PV.str), PV.sl (dpT n l).idxs.length ((dpT n l).idxs.map PV.str)]) = true := isTb_mk g1.sh
    have f3 : asTb (PV.agg [PV.str (dpT n l).name, PV.str (dpT n l).glob, PV.sl (dpT n l).cols.length ((dpT n l).cols.map PV.str), PV.sl (dpT n l).idxs.length ((dpT n l).idxs.map PV.str)]) = dpT n l := asTb_mk (dpT n l)
    have c1 := g1.2.2.1.1
    refine ⟨noLoop (by kernel_rfl), ?_⟩
    rw [f1, f3, s0, s1, dT (show (dpT n l).cols.length ≤ 10 by omega), dT (show ((anyTabV n l 0).2 : Int) ≤ 300000 by omega), Int.toNat_natCast] at tree
    have k0 : (anyRowV (dpT n l) n l (anyTabV n l 0).2).2 = duK n l := rfl
    rw [k0] at tree
    unfold duV
    obtain ⟨cs, hc0⟩ : ∃ cs, dpC n l = cs := ⟨_, rfl⟩
    have hc1 : (anyRowV (dpT n l) n l (anyTabV n l 0).2).1 = cs := hc0
    rw [hc1] at tree
    rw [hc0] at g2 ⊢
    have hcs := g2.2
    have f4 : isRw (PV.agg [PV.sl cs.length (cs.map .str)]) = true := isRw_mk (hcs.shL (by omega))
    have f5 : asRw (PV.agg [PV.sl cs.length (cs.map .str)]) = cs := asRw_mk cs
    have f6 := few_allS hcs
    have c2 := hcs.1
    have c3 := g2.1
    have s2 := srcOk_mk (k := duK n l) hw (by omega) hn
    have s3 := srcOk_mk (k := duK n l + 1) hw (by omega) hn
    have e1 : (duK n l : Int) + 1 = ((duK n l + 1 : Nat) : Int) := by omega
    have p1 := pkF_size cs hcs.2 (cs.length - 1) 1 ⟨#[]⟩
    have p0 : (⟨#[]⟩ : ByteArray).size = 0 := rfl
    have p2 : (textV l (duK n l + 1) [PV.str { data := #[94] }, PV.str { data := #[120] }, PV.str { data := #[10] }]).size ≤ 1 := text_size (m := 1) (by decide) l _
    cases cs with
    | nil => simp at c3
    | cons c cs =>
      rw [f4, f5, f6] at tree
      simp (disch := first | omega | rfl) only [Int.toNat_natCast, e1, s2, s3, wfT_mk, dT, Bool.and_true, Bool.true_and] at tree
      cases h0 : (pickV l (duK n l) 5 == 0) with
      | true =>
        rw [h0] at tree
        rw [if_pos rfl]
        exact tree.trans rfl
      | false =>
        rw [h0] at tree
        rw [if_neg Bool.false_ne_true]
        exact tree.trans rfl
  · cases h
theorem du_size {n : Nat} {l : List PV} (hw : wfB n l = true) (hn : n ≤ 1048577) : (duV n l).size ≤ 1000 ∧ ((dpC n l).headD ⟨#[]⟩).size ≤ 20 := by
  obtain ⟨g1, g2, g3, g4⟩ := dp_facts hw hn
  have p1 := pkF_size (dpC n l) g2.2.2 ((dpC n l).length - 1) 1 ⟨#[]⟩
  have p0 : (⟨#[]⟩ : ByteArray).size = 0 := rfl
  have c2 := g2.2.1
  have p2 : (textV l (duK n l + 1) end29).size ≤ 1 := text_size (m := 1) (by decide) l _
  refine ⟨?_, ?_⟩
  · unfold duV
    split
    · rw [app_size]
      omega
    · omega
  · have c3 := g2.1
    have c4 := g2.2.2
    generalize dpC n l = cs at c3 c4
    cases cs with
    | nil => exact Nat.zero_le _
    | cons c cs => exact c4 c (by simp)
end

section
open Go.RowKit
set_option linter.unusedVariables false

noncomputable def q_big2 (br : Br) (n m : Nat) (l k : List PV) := evB br Tryz.prog [] [] LO0 Tryz.f10 [cP (.sl n l), cP (.sl m k)]
def E_big2 : Entry := fun ivs => match ivs with
  | [.cv (.pv (.sl n l)), .cv (.pv (.sl m k))] => [(true, cB (decide ((n : Int) > 1048576) || decide ((m : Int) > 1048576)), [])]
  | _ => []
noncomputable def plab : List (FuncId × Entry) := (10, E_big2) :: (11, E_DPR) :: (12, E_PackRow) :: (13, E_iRowOk) :: (14, E_Unpack) :: (15, E_DUR) :: (16, E_Unpack) :: [(17, E_SmR)]
noncomputable def q_fp (br : Br) (n : Nat) (l : List PV) := evB br Tryz.prog plab [] LO0 Tryz.f3 [cP (.sl n l)]
end

section
set_option linter.unusedVariables false
set_option maxRecDepth 100000
theorem q_big2_eq (n : Nat) (m : Nat) (l : List PV) (k : List PV) : q_big2 brC n m l k =
 brC (decide ((↑n : Int) > 1048576))
  (some ((IV.cv (CV.pv (PV.bool true)), [])))
  (some ((IV.cv (CV.pv (PV.bool (decide ((↑m : Int) > 1048576)))), []))) := by kernel_rfl
theorem q_fp_eq (n : Nat) (l : List PV) : q_fp brC n l =
 brC (decide ((↑n : Int) > 1048576) || decide ((↑0 : Int) > 1048576))
  (some ((IV.cv (CV.pv (PV.bool true)), [])))
  (brC (wfB n l && decide (n ≤ 1048577))
    (brC (isTb (PV.agg [PV.str (TblT.name (dpT n l)), PV.str (TblT.glob (dpT n l)), PV.sl (List.length (TblT.cols (dpT n l))) (List.map PV.str (TblT.cols (dpT n l))), PV.sl (List.length (TblT.idxs (dpT n l))) (List.map PV.str (TblT.idxs (dpT n l)))]) && isRw (PV.agg [PV.sl (List.length (dpC n l)) (List.map PV.str (dpC n l))]) && tblB (asTb (PV.agg [PV.str (TblT.name (dpT n l)), PV.str (TblT.glob (dpT n l)), PV.sl (List.length (TblT.cols (dpT n l))) (List.map PV.str (TblT.cols (dpT n l))), PV.sl (List.length (TblT.idxs (dpT n l))) (List.map PV.str (TblT.idxs (dpT n l)))])) && rowB (asTb (PV.agg [PV.str (TblT.name (dpT n l)), PV.str (TblT.glob (dpT n l)), PV.sl (List.length (TblT.cols (dpT n l))) (List.map PV.str (TblT.cols (dpT n l))), PV.sl (List.length (TblT.idxs (dpT n l))) (List.map PV.str (TblT.idxs (dpT n l)))])) (asRw (PV.agg [PV.sl (List.length (dpC n l)) (List.map PV.str (dpC n l))])))
      (brC (decide (0 ≤ 0) && decide (0 < (↑(List.length (dpC n l)) : Int)))
        (brC (Nat.blt 0 (List.length (List.drop 0 (List.map PV.str (dpC n l)))) && PV.isStr (List.headD (List.drop 0 (List.map PV.str (dpC n l))) PV.nilp) && true)
          (brC (isTb (PV.agg [PV.str (TblT.name (dpT n l)), PV.str (TblT.glob (dpT n l)), PV.sl (List.length (TblT.cols (dpT n l))) (List.map PV.str (TblT.cols (dpT n l))), PV.sl (List.length (TblT.idxs (dpT n l))) (List.map PV.str (TblT.idxs (dpT n l)))]) && decide (ByteArray.size (PV.asStr (List.headD (List.drop 0 (List.map PV.str (dpC n l))) PV.nilp)) ≤ 50000) && decide (ByteArray.size (bs (packL (asRw (PV.agg [PV.sl (List.length (dpC n l)) (List.map PV.str (dpC n l))])))) ≤ 50000) && tblB (asTb (PV.agg [PV.str (TblT.name (dpT n l)), PV.str (TblT.glob (dpT n l)), PV.sl (List.length (TblT.cols (dpT n l))) (List.map PV.str (TblT.cols (dpT n l))), PV.sl (List.length (TblT.idxs (dpT n l))) (List.map PV.str (TblT.idxs (dpT n l)))])) && unpB (asTb (PV.agg [PV.str (TblT.name (dpT n l)), PV.str (TblT.glob (dpT n l)), PV.sl (List.length (TblT.cols (dpT n l))) (List.map PV.str (TblT.cols (dpT n l))), PV.sl (List.length (TblT.idxs (dpT n l))) (List.map PV.str (TblT.idxs (dpT n l)))])) (PV.asStr (List.headD (List.drop 0 (List.map PV.str (dpC n l))) PV.nilp)) (bs (packL (asRw (PV.agg [PV.sl (List.length (dpC n l)) (List.map PV.str (dpC n l))])))))
            (brC (wfB n l && decide (n ≤ 1048577))
              (brC (isTb (PV.agg [PV.str (TblT.name (dpT n l)), PV.str (TblT.glob (dpT n l)), PV.sl (List.length (TblT.cols (dpT n l))) (List.map PV.str (TblT.cols (dpT n l))), PV.sl (List.length (TblT.idxs (dpT n l))) (List.map PV.str (TblT.idxs (dpT n l)))]) && decide (ByteArray.size (List.headD (dpC n l) { data := #[] }) ≤ 50000) && decide (ByteArray.size (duV n l) ≤ 50000) && tblB (asTb (PV.agg [PV.str (TblT.name (dpT n l)), PV.str (TblT.glob (dpT n l)), PV.sl (List.length (TblT.cols (dpT n l))) (List.map PV.str (TblT.cols (dpT n l))), PV.sl (List.length (TblT.idxs (dpT n l))) (List.map PV.str (TblT.idxs (dpT n l)))])) && unpB (asTb (PV.agg [PV.str (TblT.name (dpT n l)), PV.str (TblT.glob (dpT n l)), PV.sl (List.length (TblT.cols (dpT n l))) (List.map PV.str (TblT.cols (dpT n l))), PV.sl (List.length (TblT.idxs (dpT n l))) (List.map PV.str (TblT.idxs (dpT n l)))])) (List.headD (dpC n l) { data := #[] }) (duV n l))
                (brC (isTb (PV.agg [PV.str (TblT.name (dpT n l)), PV.str (TblT.glob (dpT n l)), PV.sl (List.length (TblT.cols (dpT n l))) (List.map PV.str (TblT.cols (dpT n l))), PV.sl (List.length (TblT.idxs (dpT n l))) (List.map PV.str (TblT.idxs (dpT n l)))]) && decide (ByteArray.size (List.headD (dpC n l) { data := #[] }) ≤ 50000) && decide (ByteArray.size (duV n l) ≤ 50000) && tblB (asTb (PV.agg [PV.str (TblT.name (dpT n l)), PV.str (TblT.glob (dpT n l)), PV.sl (List.length (TblT.cols (dpT n l))) (List.map PV.str (TblT.cols (dpT n l))), PV.sl (List.length (TblT.idxs (dpT n l))) (List.map PV.str (TblT.idxs (dpT n l)))])) && unpB (asTb (PV.agg [PV.str (TblT.name (dpT n l)), PV.str (TblT.glob (dpT n l)), PV.sl (List.length (TblT.cols (dpT n l))) (List.map PV.str (TblT.cols (dpT n l))), PV.sl (List.length (TblT.idxs (dpT n l))) (List.map PV.str (TblT.idxs (dpT n l)))])) (List.headD (dpC n l) { data := #[] }) (duV n l))
                  (brC (isL (PV.sl (List.length (cellsW (asTb (PV.agg [PV.str (TblT.name (dpT n l)), PV.str (TblT.glob (dpT n l)), PV.sl (List.length (TblT.cols (dpT n l))) (List.map PV.str (TblT.cols (dpT n l))), PV.sl (List.length (TblT.idxs (dpT n l))) (List.map PV.str (TblT.idxs (dpT n l)))])) (PV.asStr (List.headD (List.drop 0 (List.map PV.str (dpC n l))) PV.nilp)) (bs (packL (asRw (PV.agg [PV.sl (List.length (dpC n l)) (List.map PV.str (dpC n l))])))))) (List.map PV.str (cellsW (asTb (PV.agg [PV.str (TblT.name (dpT n l)), PV.str (TblT.glob (dpT n l)), PV.sl (List.length (TblT.cols (dpT n l))) (List.map PV.str (TblT.cols (dpT n l))), PV.sl (List.length (TblT.idxs (dpT n l))) (List.map PV.str (TblT.idxs (dpT n l)))])) (PV.asStr (List.headD (List.drop 0 (List.map PV.str (dpC n l))) PV.nilp)) (bs (packL (asRw (PV.agg [PV.sl (List.length (dpC n l)) (List.map PV.str (dpC n l))]))))))) && isL (PV.sl (List.length (dpC n l)) (List.map PV.str (dpC n l))))
                    (brC (!sameX (asL (PV.sl (List.length (cellsW (asTb (PV.agg [PV.str (TblT.name (dpT n l)), PV.str (TblT.glob (dpT n l)), PV.sl (List.length (TblT.cols (dpT n l))) (List.map PV.str (TblT.cols (dpT n l))), PV.sl (List.length (TblT.idxs (dpT n l))) (List.map PV.str (TblT.idxs (dpT n l)))])) (PV.asStr (List.headD (List.drop 0 (List.map PV.str (dpC n l))) PV.nilp)) (bs (packL (asRw (PV.agg [PV.sl (List.length (dpC n l)) (List.map PV.str (dpC n l))])))))) (List.map PV.str (cellsW (asTb (PV.agg [PV.str (TblT.name (dpT n l)), PV.str (TblT.glob (dpT n l)), PV.sl (List.length (TblT.cols (dpT n l))) (List.map PV.str (TblT.cols (dpT n l))), PV.sl (List.length (TblT.idxs (dpT n l))) (List.map PV.str (TblT.idxs (dpT n l)))])) (PV.asStr (List.headD (List.drop 0 (List.map PV.str (dpC n l))) PV.nilp)) (bs (packL (asRw (PV.agg [PV.sl (List.length (dpC n l)) (List.map PV.str (dpC n l))])))))))) (asL (PV.sl (List.length (dpC n l)) (List.map PV.str (dpC n l)))))
                      (some ((IV.cv (CV.pv (PV.bool false)), [])))
                      (brC (isTb (PV.agg [PV.str (TblT.name (dpT n l)), PV.str (TblT.glob (dpT n l)), PV.sl (List.length (TblT.cols (dpT n l))) (List.map PV.str (TblT.cols (dpT n l))), PV.sl (List.length (TblT.idxs (dpT n l))) (List.map PV.str (TblT.idxs (dpT n l)))]) && isRw (PV.agg [PV.sl (List.length (cellsW (asTb (PV.agg [PV.str (TblT.name (dpT n l)), PV.str (TblT.glob (dpT n l)), PV.sl (List.length (TblT.cols (dpT n l))) (List.map PV.str (TblT.cols (dpT n l))), PV.sl (List.length (TblT.idxs (dpT n l))) (List.map PV.str (TblT.idxs (dpT n l)))])) (List.headD (dpC n l) { data := #[] }) (duV n l))) (List.map PV.str (cellsW (asTb (PV.agg [PV.str (TblT.name (dpT n l)), PV.str (TblT.glob (dpT n l)), PV.sl (List.length (TblT.cols (dpT n l))) (List.map PV.str (TblT.cols (dpT n l))), PV.sl (List.length (TblT.idxs (dpT n l))) (List.map PV.str (TblT.idxs (dpT n l)))])) (List.headD (dpC n l) { data := #[] }) (duV n l)))]) && tblB (asTb (PV.agg [PV.str (TblT.name (dpT n l)), PV.str (TblT.glob (dpT n l)), PV.sl (List.length (TblT.cols (dpT n l))) (List.map PV.str (TblT.cols (dpT n l))), PV.sl (List.length (TblT.idxs (dpT n l))) (List.map PV.str (TblT.idxs (dpT n l)))])) && rowB (asTb (PV.agg [PV.str (TblT.name (dpT n l)), PV.str (TblT.glob (dpT n l)), PV.sl (List.length (TblT.cols (dpT n l))) (List.map PV.str (TblT.cols (dpT n l))), PV.sl (List.length (TblT.idxs (dpT n l))) (List.map PV.str (TblT.idxs (dpT n l)))])) (asRw (PV.agg [PV.sl (List.length (cellsW (asTb (PV.agg [PV.str (TblT.name (dpT n l)), PV.str (TblT.glob (dpT n l)), PV.sl (List.length (TblT.cols (dpT n l))) (List.map PV.str (TblT.cols (dpT n l))), PV.sl (List.length (TblT.idxs (dpT n l))) (List.map PV.str (TblT.idxs (dpT n l)))])) (List.headD (dpC n l) { data := #[] }) (duV n l))) (List.map PV.str (cellsW (asTb (PV.agg [PV.str (TblT.name (dpT n l)), PV.str (TblT.glob (dpT n l)), PV.sl (List.length (TblT.cols (dpT n l))) (List.map PV.str (TblT.cols (dpT n l))), PV.sl (List.length (TblT.idxs (dpT n l))) (List.map PV.str (TblT.idxs (dpT n l)))])) (List.headD (dpC n l) { data := #[] }) (duV n l)))])))
                        (some ((IV.cv (CV.pv (PV.bool (ByteArray.toList (bs (packL (asRw (PV.agg [PV.sl (List.length (cellsW (asTb (PV.agg [PV.str (TblT.name (dpT n l)), PV.str (TblT.glob (dpT n l)), PV.sl (List.length (TblT.cols (dpT n l))) (List.map PV.str (TblT.cols (dpT n l))), PV.sl (List.length (TblT.idxs (dpT n l))) (List.map PV.str (TblT.idxs (dpT n l)))])) (List.headD (dpC n l) { data := #[] }) (duV n l))) (List.map PV.str (cellsW (asTb (PV.agg [PV.str (TblT.name (dpT n l)), PV.str (TblT.glob (dpT n l)), PV.sl (List.length (TblT.cols (dpT n l))) (List.map PV.str (TblT.cols (dpT n l))), PV.sl (List.length (TblT.idxs (dpT n l))) (List.map PV.str (TblT.idxs (dpT n l)))])) (List.headD (dpC n l) { data := #[] }) (duV n l)))])))) == ByteArray.toList (duV n l)))), [])))
                        (brC (isTb (PV.agg [PV.str (TblT.name (dpT n l)), PV.str (TblT.glob (dpT n l)), PV.sl (List.length (TblT.cols (dpT n l))) (List.map PV.str (TblT.cols (dpT n l))), PV.sl (List.length (TblT.idxs (dpT n l))) (List.map PV.str (TblT.idxs (dpT n l)))]) && isRw (PV.agg [PV.sl (List.length (cellsW (asTb (PV.agg [PV.str (TblT.name (dpT n l)), PV.str (TblT.glob (dpT n l)), PV.sl (List.length (TblT.cols (dpT n l))) (List.map PV.str (TblT.cols (dpT n l))), PV.sl (List.length (TblT.idxs (dpT n l))) (List.map PV.str (TblT.idxs (dpT n l)))])) (List.headD (dpC n l) { data := #[] }) (duV n l))) (List.map PV.str (cellsW (asTb (PV.agg [PV.str (TblT.name (dpT n l)), PV.str (TblT.glob (dpT n l)), PV.sl (List.length (TblT.cols (dpT n l))) (List.map PV.str (TblT.cols (dpT n l))), PV.sl (List.length (TblT.idxs (dpT n l))) (List.map PV.str (TblT.idxs (dpT n l)))])) (List.headD (dpC n l) { data := #[] }) (duV n l)))]))
                          (some ((IV.cv (CV.pv (PV.bool false)), [])))
                          (none))))
                    (none))
                  (brC (isTb (PV.agg [PV.str (TblT.name (dpT n l)), PV.str (TblT.glob (dpT n l)), PV.sl (List.length (TblT.cols (dpT n l))) (List.map PV.str (TblT.cols (dpT n l))), PV.sl (List.length (TblT.idxs (dpT n l))) (List.map PV.str (TblT.idxs (dpT n l)))]) && decide (ByteArray.size (List.headD (dpC n l) { data := #[] }) ≤ 50000) && decide (ByteArray.size (duV n l) ≤ 50000) && tblB (asTb (PV.agg [PV.str (TblT.name (dpT n l)), PV.str (TblT.glob (dpT n l)), PV.sl (List.length (TblT.cols (dpT n l))) (List.map PV.str (TblT.cols (dpT n l))), PV.sl (List.length (TblT.idxs (dpT n l))) (List.map PV.str (TblT.idxs (dpT n l)))])))
                    (brC (isL (PV.sl (List.length (cellsW (asTb (PV.agg [PV.str (TblT.name (dpT n l)), PV.str (TblT.glob (dpT n l)), PV.sl (List.length (TblT.cols (dpT n l))) (List.map PV.str (TblT.cols (dpT n l))), PV.sl (List.length (TblT.idxs (dpT n l))) (List.map PV.str (TblT.idxs (dpT n l)))])) (PV.asStr (List.headD (List.drop 0 (List.map PV.str (dpC n l))) PV.nilp)) (bs (packL (asRw (PV.agg [PV.sl (List.length (dpC n l)) (List.map PV.str (dpC n l))])))))) (List.map PV.str (cellsW (asTb (PV.agg [PV.str (TblT.name (dpT n l)), PV.str (TblT.glob (dpT n l)), PV.sl (List.length (TblT.cols (dpT n l))) (List.map PV.str (TblT.cols (dpT n l))), PV.sl (List.length (TblT.idxs (dpT n l))) (List.map PV.str (TblT.idxs (dpT n l)))])) (PV.asStr (List.headD (List.drop 0 (List.map PV.str (dpC n l))) PV.nilp)) (bs (packL (asRw (PV.agg [PV.sl (List.length (dpC n l)) (List.map PV.str (dpC n l))]))))))) && isL (PV.sl (List.length (dpC n l)) (List.map PV.str (dpC n l))))
                      (brC (!sameX (asL (PV.sl (List.length (cellsW (asTb (PV.agg [PV.str (TblT.name (dpT n l)), PV.str (TblT.glob (dpT n l)), PV.sl (List.length (TblT.cols (dpT n l))) (List.map PV.str (TblT.cols (dpT n l))), PV.sl (List.length (TblT.idxs (dpT n l))) (List.map PV.str (TblT.idxs (dpT n l)))])) (PV.asStr (List.headD (List.drop 0 (List.map PV.str (dpC n l))) PV.nilp)) (bs (packL (asRw (PV.agg [PV.sl (List.length (dpC n l)) (List.map PV.str (dpC n l))])))))) (List.map PV.str (cellsW (asTb (PV.agg [PV.str (TblT.name (dpT n l)), PV.str (TblT.glob (dpT n l)), PV.sl (List.length (TblT.cols (dpT n l))) (List.map PV.str (TblT.cols (dpT n l))), PV.sl (List.length (TblT.idxs (dpT n l))) (List.map PV.str (TblT.idxs (dpT n l)))])) (PV.asStr (List.headD (List.drop 0 (List.map PV.str (dpC n l))) PV.nilp)) (bs (packL (asRw (PV.agg [PV.sl (List.length (dpC n l)) (List.map PV.str (dpC n l))])))))))) (asL (PV.sl (List.length (dpC n l)) (List.map PV.str (dpC n l)))))
                        (some ((IV.cv (CV.pv (PV.bool false)), [])))
                        (some ((IV.cv (CV.pv (PV.bool false)), []))))
                      (none))
                    (brC (isTb (PV.agg [PV.str (TblT.name (dpT n l)), PV.str (TblT.glob (dpT n l)), PV.sl (List.length (TblT.cols (dpT n l))) (List.map PV.str (TblT.cols (dpT n l))), PV.sl (List.length (TblT.idxs (dpT n l))) (List.map PV.str (TblT.idxs (dpT n l)))]) && decide (ByteArray.size (List.headD (dpC n l) { data := #[] }) ≤ 50000) && decide (ByteArray.size (duV n l) ≤ 50000))
                      (brC (isL (PV.sl (List.length (cellsW (asTb (PV.agg [PV.str (TblT.name (dpT n l)), PV.str (TblT.glob (dpT n l)), PV.sl (List.length (TblT.cols (dpT n l))) (List.map PV.str (TblT.cols (dpT n l))), PV.sl (List.length (TblT.idxs (dpT n l))) (List.map PV.str (TblT.idxs (dpT n l)))])) (PV.asStr (List.headD (List.drop 0 (List.map PV.str (dpC n l))) PV.nilp)) (bs (packL (asRw (PV.agg [PV.sl (List.length (dpC n l)) (List.map PV.str (dpC n l))])))))) (List.map PV.str (cellsW (asTb (PV.agg [PV.str (TblT.name (dpT n l)), PV.str (TblT.glob (dpT n l)), PV.sl (List.length (TblT.cols (dpT n l))) (List.map PV.str (TblT.cols (dpT n l))), PV.sl (List.length (TblT.idxs (dpT n l))) (List.map PV.str (TblT.idxs (dpT n l)))])) (PV.asStr (List.headD (List.drop 0 (List.map PV.str (dpC n l))) PV.nilp)) (bs (packL (asRw (PV.agg [PV.sl (List.length (dpC n l)) (List.map PV.str (dpC n l))]))))))) && isL (PV.sl (List.length (dpC n l)) (List.map PV.str (dpC n l))))
                        (brC (!sameX (asL (PV.sl (List.length (cellsW (asTb (PV.agg [PV.str (TblT.name (dpT n l)), PV.str (TblT.glob (dpT n l)), PV.sl (List.length (TblT.cols (dpT n l))) (List.map PV.str (TblT.cols (dpT n l))), PV.sl (List.length (TblT.idxs (dpT n l))) (List.map PV.str (TblT.idxs (dpT n l)))])) (PV.asStr (List.headD (List.drop 0 (List.map PV.str (dpC n l))) PV.nilp)) (bs (packL (asRw (PV.agg [PV.sl (List.length (dpC n l)) (List.map PV.str (dpC n l))])))))) (List.map PV.str (cellsW (asTb (PV.agg [PV.str (TblT.name (dpT n l)), PV.str (TblT.glob (dpT n l)), PV.sl (List.length (TblT.cols (dpT n l))) (List.map PV.str (TblT.cols (dpT n l))), PV.sl (List.length (TblT.idxs (dpT n l))) (List.map PV.str (TblT.idxs (dpT n l)))])) (PV.asStr (List.headD (List.drop 0 (List.map PV.str (dpC n l))) PV.nilp)) (bs (packL (asRw (PV.agg [PV.sl (List.length (dpC n l)) (List.map PV.str (dpC n l))])))))))) (asL (PV.sl (List.length (dpC n l)) (List.map PV.str (dpC n l)))))
                          (some ((IV.cv (CV.pv (PV.bool false)), [])))
                          (some ((IV.cv (CV.pv (PV.bool false)), []))))
                        (none))
                      (none))))
                (brC (isTb (PV.agg [PV.str (TblT.name (dpT n l)), PV.str (TblT.glob (dpT n l)), PV.sl (List.length (TblT.cols (dpT n l))) (List.map PV.str (TblT.cols (dpT n l))), PV.sl (List.length (TblT.idxs (dpT n l))) (List.map PV.str (TblT.idxs (dpT n l)))]) && decide (ByteArray.size (List.headD (dpC n l) { data := #[] }) ≤ 50000) && decide (ByteArray.size (duV n l) ≤ 50000) && tblB (asTb (PV.agg [PV.str (TblT.name (dpT n l)), PV.str (TblT.glob (dpT n l)), PV.sl (List.length (TblT.cols (dpT n l))) (List.map PV.str (TblT.cols (dpT n l))), PV.sl (List.length (TblT.idxs (dpT n l))) (List.map PV.str (TblT.idxs (dpT n l)))])))
                  (brC (isTb (PV.agg [PV.str (TblT.name (dpT n l)), PV.str (TblT.glob (dpT n l)), PV.sl (List.length (TblT.cols (dpT n l))) (List.map PV.str (TblT.cols (dpT n l))), PV.sl (List.length (TblT.idxs (dpT n l))) (List.map PV.str (TblT.idxs (dpT n l)))]) && decide (ByteArray.size (List.headD (dpC n l) { data := #[] }) ≤ 50000) && decide (ByteArray.size (duV n l) ≤ 50000) && tblB (asTb (PV.agg [PV.str (TblT.name (dpT n l)), PV.str (TblT.glob (dpT n l)), PV.sl (List.length (TblT.cols (dpT n l))) (List.map PV.str (TblT.cols (dpT n l))), PV.sl (List.length (TblT.idxs (dpT n l))) (List.map PV.str (TblT.idxs (dpT n l)))])) && unpB (asTb (PV.agg [PV.str (TblT.name (dpT n l)), PV.str (TblT.glob (dpT n l)), PV.sl (List.length (TblT.cols (dpT n l))) (List.map PV.str (TblT.cols (dpT n l))), PV.sl (List.length (TblT.idxs (dpT n l))) (List.map PV.str (TblT.idxs (dpT n l)))])) (List.headD (dpC n l) { data := #[] }) (duV n l))
                    (brC (isL (PV.sl (List.length (cellsW (asTb (PV.agg [PV.str (TblT.name (dpT n l)), PV.str (TblT.glob (dpT n l)), PV.sl (List.length (TblT.cols (dpT n l))) (List.map PV.str (TblT.cols (dpT n l))), PV.sl (List.length (TblT.idxs (dpT n l))) (List.map PV.str (TblT.idxs (dpT n l)))])) (PV.asStr (List.headD (List.drop 0 (List.map PV.str (dpC n l))) PV.nilp)) (bs (packL (asRw (PV.agg [PV.sl (List.length (dpC n l)) (List.map PV.str (dpC n l))])))))) (List.map PV.str (cellsW (asTb (PV.agg [PV.str (TblT.name (dpT n l)), PV.str (TblT.glob (dpT n l)), PV.sl (List.length (TblT.cols (dpT n l))) (List.map PV.str (TblT.cols (dpT n l))), PV.sl (List.length (TblT.idxs (dpT n l))) (List.map PV.str (TblT.idxs (dpT n l)))])) (PV.asStr (List.headD (List.drop 0 (List.map PV.str (dpC n l))) PV.nilp)) (bs (packL (asRw (PV.agg [PV.sl (List.length (dpC n l)) (List.map PV.str (dpC n l))]))))))) && isL (PV.sl (List.length (dpC n l)) (List.map PV.str (dpC n l))))
                      (brC (!sameX (asL (PV.sl (List.length (cellsW (asTb (PV.agg [PV.str (TblT.name (dpT n l)), PV.str (TblT.glob (dpT n l)), PV.sl (List.length (TblT.cols (dpT n l))) (List.map PV.str (TblT.cols (dpT n l))), PV.sl (List.length (TblT.idxs (dpT n l))) (List.map PV.str (TblT.idxs (dpT n l)))])) (PV.asStr (List.headD (List.drop 0 (List.map PV.str (dpC n l))) PV.nilp)) (bs (packL (asRw (PV.agg [PV.sl (List.length (dpC n l)) (List.map PV.str (dpC n l))])))))) (List.map PV.str (cellsW (asTb (PV.agg [PV.str (TblT.name (dpT n l)), PV.str (TblT.glob (dpT n l)), PV.sl (List.length (TblT.cols (dpT n l))) (List.map PV.str (TblT.cols (dpT n l))), PV.sl (List.length (TblT.idxs (dpT n l))) (List.map PV.str (TblT.idxs (dpT n l)))])) (PV.asStr (List.headD (List.drop 0 (List.map PV.str (dpC n l))) PV.nilp)) (bs (packL (asRw (PV.agg [PV.sl (List.length (dpC n l)) (List.map PV.str (dpC n l))])))))))) (asL (PV.sl (List.length (dpC n l)) (List.map PV.str (dpC n l)))))
                        (some ((IV.cv (CV.pv (PV.bool false)), [])))
                        (some ((IV.cv (CV.pv (PV.bool false)), []))))
                      (none))
                    (brC (isTb (PV.agg [PV.str (TblT.name (dpT n l)), PV.str (TblT.glob (dpT n l)), PV.sl (List.length (TblT.cols (dpT n l))) (List.map PV.str (TblT.cols (dpT n l))), PV.sl (List.length (TblT.idxs (dpT n l))) (List.map PV.str (TblT.idxs (dpT n l)))]) && decide (ByteArray.size (List.headD (dpC n l) { data := #[] }) ≤ 50000) && decide (ByteArray.size (duV n l) ≤ 50000) && tblB (asTb (PV.agg [PV.str (TblT.name (dpT n l)), PV.str (TblT.glob (dpT n l)), PV.sl (List.length (TblT.cols (dpT n l))) (List.map PV.str (TblT.cols (dpT n l))), PV.sl (List.length (TblT.idxs (dpT n l))) (List.map PV.str (TblT.idxs (dpT n l)))])))
                      (brC (isL (PV.sl (List.length (cellsW (asTb (PV.agg [PV.str (TblT.name (dpT n l)), PV.str (TblT.glob (dpT n l)), PV.sl (List.length (TblT.cols (dpT n l))) (List.map PV.str (TblT.cols (dpT n l))), PV.sl (List.length (TblT.idxs (dpT n l))) (List.map PV.str (TblT.idxs (dpT n l)))])) (PV.asStr (List.headD (List.drop 0 (List.map PV.str (dpC n l))) PV.nilp)) (bs (packL (asRw (PV.agg [PV.sl (List.length (dpC n l)) (List.map PV.str (dpC n l))])))))) (List.map PV.str (cellsW (asTb (PV.agg [PV.str (TblT.name (dpT n l)), PV.str (TblT.glob (dpT n l)), PV.sl (List.length (TblT.cols (dpT n l))) (List.map PV.str (TblT.cols (dpT n l))), PV.sl (List.length (TblT.idxs (dpT n l))) (List.map PV.str (TblT.idxs (dpT n l)))])) (PV.asStr (List.headD (List.drop 0 (List.map PV.str (dpC n l))) PV.nilp)) (bs (packL (asRw (PV.agg [PV.sl (List.length (dpC n l)) (List.map PV.str (dpC n l))]))))))) && isL (PV.sl (List.length (dpC n l)) (List.map PV.str (dpC n l))))
                        (brC (!sameX (asL (PV.sl (List.length (cellsW (asTb (PV.agg [PV.str (TblT.name (dpT n l)), PV.str (TblT.glob (dpT n l)), PV.sl (List.length (TblT.cols (dpT n l))) (List.map PV.str (TblT.cols (dpT n l))), PV.sl (List.length (TblT.idxs (dpT n l))) (List.map PV.str (TblT.idxs (dpT n l)))])) (PV.asStr (List.headD (List.drop 0 (List.map PV.str (dpC n l))) PV.nilp)) (bs (packL (asRw (PV.agg [PV.sl (List.length (dpC n l)) (List.map PV.str (dpC n l))])))))) (List.map PV.str (cellsW (asTb (PV.agg [PV.str (TblT.name (dpT n l)), PV.str (TblT.glob (dpT n l)), PV.sl (List.length (TblT.cols (dpT n l))) (List.map PV.str (TblT.cols (dpT n l))), PV.sl (List.length (TblT.idxs (dpT n l))) (List.map PV.str (TblT.idxs (dpT n l)))])) (PV.asStr (List.headD (List.drop 0 (List.map PV.str (dpC n l))) PV.nilp)) (bs (packL (asRw (PV.agg [PV.sl (List.length (dpC n l)) (List.map PV.str (dpC n l))])))))))) (asL (PV.sl (List.length (dpC n l)) (List.map PV.str (dpC n l)))))
                          (some ((IV.cv (CV.pv (PV.bool false)), [])))
                          (some ((IV.cv (CV.pv (PV.bool true)), []))))
                        (none))
                      (brC (isTb (PV.agg [PV.str (TblT.name (dpT n l)), PV.str (TblT.glob (dpT n l)), PV.sl (List.length (TblT.cols (dpT n l))) (List.map PV.str (TblT.cols (dpT n l))), PV.sl (List.length (TblT.idxs (dpT n l))) (List.map PV.str (TblT.idxs (dpT n l)))]) && decide (ByteArray.size (List.headD (dpC n l) { data := #[] }) ≤ 50000) && decide (ByteArray.size (duV n l) ≤ 50000))
                        (brC (isL (PV.sl (List.length (cellsW (asTb (PV.agg [PV.str (TblT.name (dpT n l)), PV.str (TblT.glob (dpT n l)), PV.sl (List.length (TblT.cols (dpT n l))) (List.map PV.str (TblT.cols (dpT n l))), PV.sl (List.length (TblT.idxs (dpT n l))) (List.map PV.str (TblT.idxs (dpT n l)))])) (PV.asStr (List.headD (List.drop 0 (List.map PV.str (dpC n l))) PV.nilp)) (bs (packL (asRw (PV.agg [PV.sl (List.length (dpC n l)) (List.map PV.str (dpC n l))])))))) (List.map PV.str (cellsW (asTb (PV.agg [PV.str (TblT.name (dpT n l)), PV.str (TblT.glob (dpT n l)), PV.sl (List.length (TblT.cols (dpT n l))) (List.map PV.str (TblT.cols (dpT n l))), PV.sl (List.length (TblT.idxs (dpT n l))) (List.map PV.str (TblT.idxs (dpT n l)))])) (PV.asStr (List.headD (List.drop 0 (List.map PV.str (dpC n l))) PV.nilp)) (bs (packL (asRw (PV.agg [PV.sl (List.length (dpC n l)) (List.map PV.str (dpC n l))]))))))) && isL (PV.sl (List.length (dpC n l)) (List.map PV.str (dpC n l))))
                          (brC (!sameX (asL (PV.sl (List.length (cellsW (asTb (PV.agg [PV.str (TblT.name (dpT n l)), PV.str (TblT.glob (dpT n l)), PV.sl (List.length (TblT.cols (dpT n l))) (List.map PV.str (TblT.cols (dpT n l))), PV.sl (List.length (TblT.idxs (dpT n l))) (List.map PV.str (TblT.idxs (dpT n l)))])) (PV.asStr (List.headD (List.drop 0 (List.map PV.str (dpC n l))) PV.nilp)) (bs (packL (asRw (PV.agg [PV.sl (List.length (dpC n l)) (List.map PV.str (dpC n l))])))))) (List.map PV.str (cellsW (asTb (PV.agg [PV.str (TblT.name (dpT n l)), PV.str (TblT.glob (dpT n l)), PV.sl (List.length (TblT.cols (dpT n l))) (List.map PV.str (TblT.cols (dpT n l))), PV.sl (List.length (TblT.idxs (dpT n l))) (List.map PV.str (TblT.idxs (dpT n l)))])) (PV.asStr (List.headD (List.drop 0 (List.map PV.str (dpC n l))) PV.nilp)) (bs (packL (asRw (PV.agg [PV.sl (List.length (dpC n l)) (List.map PV.str (dpC n l))])))))))) (asL (PV.sl (List.length (dpC n l)) (List.map PV.str (dpC n l)))))
                            (some ((IV.cv (CV.pv (PV.bool false)), [])))
                            (some ((IV.cv (CV.pv (PV.bool false)), []))))
                          (none))
                        (none))))
                  (brC (isTb (PV.agg [PV.str (TblT.name (dpT n l)), PV.str (TblT.glob (dpT n l)), PV.sl (List.length (TblT.cols (dpT n l))) (List.map PV.str (TblT.cols (dpT n l))), PV.sl (List.length (TblT.idxs (dpT n l))) (List.map PV.str (TblT.idxs (dpT n l)))]) && decide (ByteArray.size (List.headD (dpC n l) { data := #[] }) ≤ 50000) && decide (ByteArray.size (duV n l) ≤ 50000))
                    (brC (isTb (PV.agg [PV.str (TblT.name (dpT n l)), PV.str (TblT.glob (dpT n l)), PV.sl (List.length (TblT.cols (dpT n l))) (List.map PV.str (TblT.cols (dpT n l))), PV.sl (List.length (TblT.idxs (dpT n l))) (List.map PV.str (TblT.idxs (dpT n l)))]) && decide (ByteArray.size (List.headD (dpC n l) { data := #[] }) ≤ 50000) && decide (ByteArray.size (duV n l) ≤ 50000) && tblB (asTb (PV.agg [PV.str (TblT.name (dpT n l)), PV.str (TblT.glob (dpT n l)), PV.sl (List.length (TblT.cols (dpT n l))) (List.map PV.str (TblT.cols (dpT n l))), PV.sl (List.length (TblT.idxs (dpT n l))) (List.map PV.str (TblT.idxs (dpT n l)))])) && unpB (asTb (PV.agg [PV.str (TblT.name (dpT n l)), PV.str (TblT.glob (dpT n l)), PV.sl (List.length (TblT.cols (dpT n l))) (List.map PV.str (TblT.cols (dpT n l))), PV.sl (List.length (TblT.idxs (dpT n l))) (List.map PV.str (TblT.idxs (dpT n l)))])) (List.headD (dpC n l) { data := #[] }) (duV n l))
                      (brC (isL (PV.sl (List.length (cellsW (asTb (PV.agg [PV.str (TblT.name (dpT n l)), PV.str (TblT.glob (dpT n l)), PV.sl (List.length (TblT.cols (dpT n l))) (List.map PV.str (TblT.cols (dpT n l))), PV.sl (List.length (TblT.idxs (dpT n l))) (List.map PV.str (TblT.idxs (dpT n l)))])) (PV.asStr (List.headD (List.drop 0 (List.map PV.str (dpC n l))) PV.nilp)) (bs (packL (asRw (PV.agg [PV.sl (List.length (dpC n l)) (List.map PV.str (dpC n l))])))))) (List.map PV.str (cellsW (asTb (PV.agg [PV.str (TblT.name (dpT n l)), PV.str (TblT.glob (dpT n l)), PV.sl (List.length (TblT.cols (dpT n l))) (List.map PV.str (TblT.cols (dpT n l))), PV.sl (List.length (TblT.idxs (dpT n l))) (List.map PV.str (TblT.idxs (dpT n l)))])) (PV.asStr (List.headD (List.drop 0 (List.map PV.str (dpC n l))) PV.nilp)) (bs (packL (asRw (PV.agg [PV.sl (List.length (dpC n l)) (List.map PV.str (dpC n l))]))))))) && isL (PV.sl (List.length (dpC n l)) (List.map PV.str (dpC n l))))
                        (brC (!sameX (asL (PV.sl (List.length (cellsW (asTb (PV.agg [PV.str (TblT.name (dpT n l)), PV.str (TblT.glob (dpT n l)), PV.sl (List.length (TblT.cols (dpT n l))) (List.map PV.str (TblT.cols (dpT n l))), PV.sl (List.length (TblT.idxs (dpT n l))) (List.map PV.str (TblT.idxs (dpT n l)))])) (PV.asStr (List.headD (List.drop 0 (List.map PV.str (dpC n l))) PV.nilp)) (bs (packL (asRw (PV.agg [PV.sl (List.length (dpC n l)) (List.map PV.str (dpC n l))])))))) (List.map PV.str (cellsW (asTb (PV.agg [PV.str (TblT.name (dpT n l)), PV.str (TblT.glob (dpT n l)), PV.sl (List.length (TblT.cols (dpT n l))) (List.map PV.str (TblT.cols (dpT n l))), PV.sl (List.length (TblT.idxs (dpT n l))) (List.map PV.str (TblT.idxs (dpT n l)))])) (PV.asStr (List.headD (List.drop 0 (List.map PV.str (dpC n l))) PV.nilp)) (bs (packL (asRw (PV.agg [PV.sl (List.length (dpC n l)) (List.map PV.str (dpC n l))])))))))) (asL (PV.sl (List.length (dpC n l)) (List.map PV.str (dpC n l)))))
                          (some ((IV.cv (CV.pv (PV.bool false)), [])))
                          (some ((IV.cv (CV.pv (PV.bool false)), []))))
                        (none))
                      (brC (isTb (PV.agg [PV.str (TblT.name (dpT n l)), PV.str (TblT.glob (dpT n l)), PV.sl (List.length (TblT.cols (dpT n l))) (List.map PV.str (TblT.cols (dpT n l))), PV.sl (List.length (TblT.idxs (dpT n l))) (List.map PV.str (TblT.idxs (dpT n l)))]) && decide (ByteArray.size (List.headD (dpC n l) { data := #[] }) ≤ 50000) && decide (ByteArray.size (duV n l) ≤ 50000) && tblB (asTb (PV.agg [PV.str (TblT.name (dpT n l)), PV.str (TblT.glob (dpT n l)), PV.sl (List.length (TblT.cols (dpT n l))) (List.map PV.str (TblT.cols (dpT n l))), PV.sl (List.length (TblT.idxs (dpT n l))) (List.map PV.str (TblT.idxs (dpT n l)))])))
                        (brC (isL (PV.sl (List.length (cellsW (asTb (PV.agg [PV.str (TblT.name (dpT n l)), PV.str (TblT.glob (dpT n l)), PV.sl (List.length (TblT.cols (dpT n l))) (List.map PV.str (TblT.cols (dpT n l))), PV.sl (List.length (TblT.idxs (dpT n l))) (List.map PV.str (TblT.idxs (dpT n l)))])) (PV.asStr (List.headD (List.drop 0 (List.map PV.str (dpC n l))) PV.nilp)) (bs (packL (asRw (PV.agg [PV.sl (List.length (dpC n l)) (List.map PV.str (dpC n l))])))))) (List.map PV.str (cellsW (asTb (PV.agg [PV.str (TblT.name (dpT n l)), PV.str (TblT.glob (dpT n l)), PV.sl (List.length (TblT.cols (dpT n l))) (List.map PV.str (TblT.cols (dpT n l))), PV.sl (List.length (TblT.idxs (dpT n l))) (List.map PV.str (TblT.idxs (dpT n l)))])) (PV.asStr (List.headD (List.drop 0 (List.map PV.str (dpC n l))) PV.nilp)) (bs (packL (asRw (PV.agg [PV.sl (List.length (dpC n l)) (List.map PV.str (dpC n l))]))))))) && isL (PV.sl (List.length (dpC n l)) (List.map PV.str (dpC n l))))
                          (brC (!sameX (asL (PV.sl (List.length (cellsW (asTb (PV.agg [PV.str (TblT.name (dpT n l)), PV.str (TblT.glob (dpT n l)), PV.sl (List.length (TblT.cols (dpT n l))) (List.map PV.str (TblT.cols (dpT n l))), PV.sl (List.length (TblT.idxs (dpT n l))) (List.map PV.str (TblT.idxs (dpT n l)))])) (PV.asStr (List.headD (List.drop 0 (List.map PV.str (dpC n l))) PV.nilp)) (bs (packL (asRw (PV.agg [PV.sl (List.length (dpC n l)) (List.map PV.str (dpC n l))])))))) (List.map PV.str (cellsW (asTb (PV.agg [PV.str (TblT.name (dpT n l)), PV.str (TblT.glob (dpT n l)), PV.sl (List.length (TblT.cols (dpT n l))) (List.map PV.str (TblT.cols (dpT n l))), PV.sl (List.length (TblT.idxs (dpT n l))) (List.map PV.str (TblT.idxs (dpT n l)))])) (PV.asStr (List.headD (List.drop 0 (List.map PV.str (dpC n l))) PV.nilp)) (bs (packL (asRw (PV.agg [PV.sl (List.length (dpC n l)) (List.map PV.str (dpC n l))])))))))) (asL (PV.sl (List.length (dpC n l)) (List.map PV.str (dpC n l)))))
                            (some ((IV.cv (CV.pv (PV.bool false)), [])))
                            (some ((IV.cv (CV.pv (PV.bool false)), []))))
                          (none))
                        (brC (isTb (PV.agg [PV.str (TblT.name (dpT n l)), PV.str (TblT.glob (dpT n l)), PV.sl (List.length (TblT.cols (dpT n l))) (List.map PV.str (TblT.cols (dpT n l))), PV.sl (List.length (TblT.idxs (dpT n l))) (List.map PV.str (TblT.idxs (dpT n l)))]) && decide (ByteArray.size (List.headD (dpC n l) { data := #[] }) ≤ 50000) && decide (ByteArray.size (duV n l) ≤ 50000))
                          (brC (isL (PV.sl (List.length (cellsW (asTb (PV.agg [PV.str (TblT.name (dpT n l)), PV.str (TblT.glob (dpT n l)), PV.sl (List.length (TblT.cols (dpT n l))) (List.map PV.str (TblT.cols (dpT n l))), PV.sl (List.length (TblT.idxs (dpT n l))) (List.map PV.str (TblT.idxs (dpT n l)))])) (PV.asStr (List.headD (List.drop 0 (List.map PV.str (dpC n l))) PV.nilp)) (bs (packL (asRw (PV.agg [PV.sl (List.length (dpC n l)) (List.map PV.str (dpC n l))])))))) (List.map PV.str (cellsW (asTb (PV.agg [PV.str (TblT.name (dpT n l)), PV.str (TblT.glob (dpT n l)), PV.sl (List.length (TblT.cols (dpT n l))) (List.map PV.str (TblT.cols (dpT n l))), PV.sl (List.length (TblT.idxs (dpT n l))) (List.map PV.str (TblT.idxs (dpT n l)))])) (PV.asStr (List.headD (List.drop 0 (List.map PV.str (dpC n l))) PV.nilp)) (bs (packL (asRw (PV.agg [PV.sl (List.length (dpC n l)) (List.map PV.str (dpC n l))]))))))) && isL (PV.sl (List.length (dpC n l)) (List.map PV.str (dpC n l))))
                            (brC (!sameX (asL (PV.sl (List.length (cellsW (asTb (PV.agg [PV.str (TblT.name (dpT n l)), PV.str (TblT.glob (dpT n l)), PV.sl (List.length (TblT.cols (dpT n l))) (List.map PV.str (TblT.cols (dpT n l))), PV.sl (List.length (TblT.idxs (dpT n l))) (List.map PV.str (TblT.idxs (dpT n l)))])) (PV.asStr (List.headD (List.drop 0 (List.map PV.str (dpC n l))) PV.nilp)) (bs (packL (asRw (PV.agg [PV.sl (List.length (dpC n l)) (List.map PV.str (dpC n l))])))))) (List.map PV.str (cellsW (asTb (PV.agg [PV.str (TblT.name (dpT n l)), PV.str (TblT.glob (dpT n l)), PV.sl (List.length (TblT.cols (dpT n l))) (List.map PV.str (TblT.cols (dpT n l))), PV.sl (List.length (TblT.idxs (dpT n l))) (List.map PV.str (TblT.idxs (dpT n l)))])) (PV.asStr (List.headD (List.drop 0 (List.map PV.str (dpC n l))) PV.nilp)) (bs (packL (asRw (PV.agg [PV.sl (List.length (dpC n l)) (List.map PV.str (dpC n l))])))))))) (asL (PV.sl (List.length (dpC n l)) (List.map PV.str (dpC n l)))))
                              (some ((IV.cv (CV.pv (PV.bool false)), [])))
                              (some ((IV.cv (CV.pv (PV.bool true)), []))))
                            (none))
                          (none))))
                    (none))))
              (none))
            (brC (isTb (PV.agg [PV.str (TblT.name (dpT n l)), PV.str (TblT.glob (dpT n l)), PV.sl (List.length (TblT.cols (dpT n l))) (List.map PV.str (TblT.cols (dpT n l))), PV.sl (List.length (TblT.idxs (dpT n l))) (List.map PV.str (TblT.idxs (dpT n l)))]) && decide (ByteArray.size (PV.asStr (List.headD (List.drop 0 (List.map PV.str (dpC n l))) PV.nilp)) ≤ 50000) && decide (ByteArray.size (bs (packL (asRw (PV.agg [PV.sl (List.length (dpC n l)) (List.map PV.str (dpC n l))])))) ≤ 50000) && tblB (asTb (PV.agg [PV.str (TblT.name (dpT n l)), PV.str (TblT.glob (dpT n l)), PV.sl (List.length (TblT.cols (dpT n l))) (List.map PV.str (TblT.cols (dpT n l))), PV.sl (List.length (TblT.idxs (dpT n l))) (List.map PV.str (TblT.idxs (dpT n l)))])))
              (brC (wfB n l && decide (n ≤ 1048577))
                (brC (isTb (PV.agg [PV.str (TblT.name (dpT n l)), PV.str (TblT.glob (dpT n l)), PV.sl (List.length (TblT.cols (dpT n l))) (List.map PV.str (TblT.cols (dpT n l))), PV.sl (List.length (TblT.idxs (dpT n l))) (List.map PV.str (TblT.idxs (dpT n l)))]) && decide (ByteArray.size (List.headD (dpC n l) { data := #[] }) ≤ 50000) && decide (ByteArray.size (duV n l) ≤ 50000) && tblB (asTb (PV.agg [PV.str (TblT.name (dpT n l)), PV.str (TblT.glob (dpT n l)), PV.sl (List.length (TblT.cols (dpT n l))) (List.map PV.str (TblT.cols (dpT n l))), PV.sl (List.length (TblT.idxs (dpT n l))) (List.map PV.str (TblT.idxs (dpT n l)))])) && unpB (asTb (PV.agg [PV.str (TblT.name (dpT n l)), PV.str (TblT.glob (dpT n l)), PV.sl (List.length (TblT.cols (dpT n l))) (List.map PV.str (TblT.cols (dpT n l))), PV.sl (List.length (TblT.idxs (dpT n l))) (List.map PV.str (TblT.idxs (dpT n l)))])) (List.headD (dpC n l) { data := #[] }) (duV n l))
                  (brC (isTb (PV.agg [PV.str (TblT.name (dpT n l)), PV.str (TblT.glob (dpT n l)), PV.sl (List.length (TblT.cols (dpT n l))) (List.map PV.str (TblT.cols (dpT n l))), PV.sl (List.length (TblT.idxs (dpT n l))) (List.map PV.str (TblT.idxs (dpT n l)))]) && decide (ByteArray.size (List.headD (dpC n l) { data := #[] }) ≤ 50000) && decide (ByteArray.size (duV n l) ≤ 50000) && tblB (asTb (PV.agg [PV.str (TblT.name (dpT n l)), PV.str (TblT.glob (dpT n l)), PV.sl (List.length (TblT.cols (dpT n l))) (List.map PV.str (TblT.cols (dpT n l))), PV.sl (List.length (TblT.idxs (dpT n l))) (List.map PV.str (TblT.idxs (dpT n l)))])) && unpB (asTb (PV.agg [PV.str (TblT.name (dpT n l)), PV.str (TblT.glob (dpT n l)), PV.sl (List.length (TblT.cols (dpT n l))) (List.map PV.str (TblT.cols (dpT n l))), PV.sl (List.length (TblT.idxs (dpT n l))) (List.map PV.str (TblT.idxs (dpT n l)))])) (List.headD (dpC n l) { data := #[] }) (duV n l))
                    (some ((IV.cv (CV.pv (PV.bool false)), [])))
                    (brC (isTb (PV.agg [PV.str (TblT.name (dpT n l)), PV.str (TblT.glob (dpT n l)), PV.sl (List.length (TblT.cols (dpT n l))) (List.map PV.str (TblT.cols (dpT n l))), PV.sl (List.length (TblT.idxs (dpT n l))) (List.map PV.str (TblT.idxs (dpT n l)))]) && decide (ByteArray.size (List.headD (dpC n l) { data := #[] }) ≤ 50000) && decide (ByteArray.size (duV n l) ≤ 50000) && tblB (asTb (PV.agg [PV.str (TblT.name (dpT n l)), PV.str (TblT.glob (dpT n l)), PV.sl (List.length (TblT.cols (dpT n l))) (List.map PV.str (TblT.cols (dpT n l))), PV.sl (List.length (TblT.idxs (dpT n l))) (List.map PV.str (TblT.idxs (dpT n l)))])))
                      (some ((IV.cv (CV.pv (PV.bool false)), [])))
                      (brC (isTb (PV.agg [PV.str (TblT.name (dpT n l)), PV.str (TblT.glob (dpT n l)), PV.sl (List.length (TblT.cols (dpT n l))) (List.map PV.str (TblT.cols (dpT n l))), PV.sl (List.length (TblT.idxs (dpT n l))) (List.map PV.str (TblT.idxs (dpT n l)))]) && decide (ByteArray.size (List.headD (dpC n l) { data := #[] }) ≤ 50000) && decide (ByteArray.size (duV n l) ≤ 50000))
                        (some ((IV.cv (CV.pv (PV.bool false)), [])))
                        (none))))
                  (brC (isTb (PV.agg [PV.str (TblT.name (dpT n l)), PV.str (TblT.glob (dpT n l)), PV.sl (List.length (TblT.cols (dpT n l))) (List.map PV.str (TblT.cols (dpT n l))), PV.sl (List.length (TblT.idxs (dpT n l))) (List.map PV.str (TblT.idxs (dpT n l)))]) && decide (ByteArray.size (List.headD (dpC n l) { data := #[] }) ≤ 50000) && decide (ByteArray.size (duV n l) ≤ 50000) && tblB (asTb (PV.agg [PV.str (TblT.name (dpT n l)), PV.str (TblT.glob (dpT n l)), PV.sl (List.length (TblT.cols (dpT n l))) (List.map PV.str (TblT.cols (dpT n l))), PV.sl (List.length (TblT.idxs (dpT n l))) (List.map PV.str (TblT.idxs (dpT n l)))])))
                    (brC (isTb (PV.agg [PV.str (TblT.name (dpT n l)), PV.str (TblT.glob (dpT n l)), PV.sl (List.length (TblT.cols (dpT n l))) (List.map PV.str (TblT.cols (dpT n l))), PV.sl (List.length (TblT.idxs (dpT n l))) (List.map PV.str (TblT.idxs (dpT n l)))]) && decide (ByteArray.size (List.headD (dpC n l) { data := #[] }) ≤ 50000) && decide (ByteArray.size (duV n l) ≤ 50000) && tblB (asTb (PV.agg [PV.str (TblT.name (dpT n l)), PV.str (TblT.glob (dpT n l)), PV.sl (List.length (TblT.cols (dpT n l))) (List.map PV.str (TblT.cols (dpT n l))), PV.sl (List.length (TblT.idxs (dpT n l))) (List.map PV.str (TblT.idxs (dpT n l)))])) && unpB (asTb (PV.agg [PV.str (TblT.name (dpT n l)), PV.str (TblT.glob (dpT n l)), PV.sl (List.length (TblT.cols (dpT n l))) (List.map PV.str (TblT.cols (dpT n l))), PV.sl (List.length (TblT.idxs (dpT n l))) (List.map PV.str (TblT.idxs (dpT n l)))])) (List.headD (dpC n l) { data := #[] }) (duV n l))
                      (some ((IV.cv (CV.pv (PV.bool false)), [])))
                      (brC (isTb (PV.agg [PV.str (TblT.name (dpT n l)), PV.str (TblT.glob (dpT n l)), PV.sl (List.length (TblT.cols (dpT n l))) (List.map PV.str (TblT.cols (dpT n l))), PV.sl (List.length (TblT.idxs (dpT n l))) (List.map PV.str (TblT.idxs (dpT n l)))]) && decide (ByteArray.size (List.headD (dpC n l) { data := #[] }) ≤ 50000) && decide (ByteArray.size (duV n l) ≤ 50000) && tblB (asTb (PV.agg [PV.str (TblT.name (dpT n l)), PV.str (TblT.glob (dpT n l)), PV.sl (List.length (TblT.cols (dpT n l))) (List.map PV.str (TblT.cols (dpT n l))), PV.sl (List.length (TblT.idxs (dpT n l))) (List.map PV.str (TblT.idxs (dpT n l)))])))
                        (some ((IV.cv (CV.pv (PV.bool false)), [])))
                        (brC (isTb (PV.agg [PV.str (TblT.name (dpT n l)), PV.str (TblT.glob (dpT n l)), PV.sl (List.length (TblT.cols (dpT n l))) (List.map PV.str (TblT.cols (dpT n l))), PV.sl (List.length (TblT.idxs (dpT n l))) (List.map PV.str (TblT.idxs (dpT n l)))]) && decide (ByteArray.size (List.headD (dpC n l) { data := #[] }) ≤ 50000) && decide (ByteArray.size (duV n l) ≤ 50000))
                          (some ((IV.cv (CV.pv (PV.bool false)), [])))
                          (none))))
                    (brC (isTb (PV.agg [PV.str (TblT.name (dpT n l)), PV.str (TblT.glob (dpT n l)), PV.sl (List.length (TblT.cols (dpT n l))) (List.map PV.str (TblT.cols (dpT n l))), PV.sl (List.length (TblT.idxs (dpT n l))) (List.map PV.str (TblT.idxs (dpT n l)))]) && decide (ByteArray.size (List.headD (dpC n l) { data := #[] }) ≤ 50000) && decide (ByteArray.size (duV n l) ≤ 50000))
                      (brC (isTb (PV.agg [PV.str (TblT.name (dpT n l)), PV.str (TblT.glob (dpT n l)), PV.sl (List.length (TblT.cols (dpT n l))) (List.map PV.str (TblT.cols (dpT n l))), PV.sl (List.length (TblT.idxs (dpT n l))) (List.map PV.str (TblT.idxs (dpT n l)))]) && decide (ByteArray.size (List.headD (dpC n l) { data := #[] }) ≤ 50000) && decide (ByteArray.size (duV n l) ≤ 50000) && tblB (asTb (PV.agg [PV.str (TblT.name (dpT n l)), PV.str (TblT.glob (dpT n l)), PV.sl (List.length (TblT.cols (dpT n l))) (List.map PV.str (TblT.cols (dpT n l))), PV.sl (List.length (TblT.idxs (dpT n l))) (List.map PV.str (TblT.idxs (dpT n l)))])) && unpB (asTb (PV.agg [PV.str (TblT.name (dpT n l)), PV.str (TblT.glob (dpT n l)), PV.sl (List.length (TblT.cols (dpT n l))) (List.map PV.str (TblT.cols (dpT n l))), PV.sl (List.length (TblT.idxs (dpT n l))) (List.map PV.str (TblT.idxs (dpT n l)))])) (List.headD (dpC n l) { data := #[] }) (duV n l))
                        (some ((IV.cv (CV.pv (PV.bool false)), [])))
                        (brC (isTb (PV.agg [PV.str (TblT.name (dpT n l)), PV.str (TblT.glob (dpT n l)), PV.sl (List.length (TblT.cols (dpT n l))) (List.map PV.str (TblT.cols (dpT n l))), PV.sl (List.length (TblT.idxs (dpT n l))) (List.map PV.str (TblT.idxs (dpT n l)))]) && decide (ByteArray.size (List.headD (dpC n l) { data := #[] }) ≤ 50000) && decide (ByteArray.size (duV n l) ≤ 50000) && tblB (asTb (PV.agg [PV.str (TblT.name (dpT n l)), PV.str (TblT.glob (dpT n l)), PV.sl (List.length (TblT.cols (dpT n l))) (List.map PV.str (TblT.cols (dpT n l))), PV.sl (List.length (TblT.idxs (dpT n l))) (List.map PV.str (TblT.idxs (dpT n l)))])))
                          (some ((IV.cv (CV.pv (PV.bool false)), [])))
                          (brC (isTb (PV.agg [PV.str (TblT.name (dpT n l)), PV.str (TblT.glob (dpT n l)), PV.sl (List.length (TblT.cols (dpT n l))) (List.map PV.str (TblT.cols (dpT n l))), PV.sl (List.length (TblT.idxs (dpT n l))) (List.map PV.str (TblT.idxs (dpT n l)))]) && decide (ByteArray.size (List.headD (dpC n l) { data := #[] }) ≤ 50000) && decide (ByteArray.size (duV n l) ≤ 50000))
                            (some ((IV.cv (CV.pv (PV.bool false)), [])))
                            (none))))
                      (none))))
                (none))
              (brC (isTb (PV.agg [PV.str (TblT.name (dpT n l)), PV.str (TblT.glob (dpT n l)), PV.sl (List.length (TblT.cols (dpT n l))) (List.map PV.str (TblT.cols (dpT n l))), PV.sl (List.length (TblT.idxs (dpT n l))) (List.map PV.str (TblT.idxs (dpT n l)))]) && decide (ByteArray.size (PV.asStr (List.headD (List.drop 0 (List.map PV.str (dpC n l))) PV.nilp)) ≤ 50000) && decide (ByteArray.size (bs (packL (asRw (PV.agg [PV.sl (List.length (dpC n l)) (List.map PV.str (dpC n l))])))) ≤ 50000))
                (brC (wfB n l && decide (n ≤ 1048577))
                  (brC (isTb (PV.agg [PV.str (TblT.name (dpT n l)), PV.str (TblT.glob (dpT n l)), PV.sl (List.length (TblT.cols (dpT n l))) (List.map PV.str (TblT.cols (dpT n l))), PV.sl (List.length (TblT.idxs (dpT n l))) (List.map PV.str (TblT.idxs (dpT n l)))]) && decide (ByteArray.size (List.headD (dpC n l) { data := #[] }) ≤ 50000) && decide (ByteArray.size (duV n l) ≤ 50000) && tblB (asTb (PV.agg [PV.str (TblT.name (dpT n l)), PV.str (TblT.glob (dpT n l)), PV.sl (List.length (TblT.cols (dpT n l))) (List.map PV.str (TblT.cols (dpT n l))), PV.sl (List.length (TblT.idxs (dpT n l))) (List.map PV.str (TblT.idxs (dpT n l)))])) && unpB (asTb (PV.agg [PV.str (TblT.name (dpT n l)), PV.str (TblT.glob (dpT n l)), PV.sl (List.length (TblT.cols (dpT n l))) (List.map PV.str (TblT.cols (dpT n l))), PV.sl (List.length (TblT.idxs (dpT n l))) (List.map PV.str (TblT.idxs (dpT n l)))])) (List.headD (dpC n l) { data := #[] }) (duV n l))
                    (brC (isTb (PV.agg [PV.str (TblT.name (dpT n l)), PV.str (TblT.glob (dpT n l)), PV.sl (List.length (TblT.cols (dpT n l))) (List.map PV.str (TblT.cols (dpT n l))), PV.sl (List.length (TblT.idxs (dpT n l))) (List.map PV.str (TblT.idxs (dpT n l)))]) && decide (ByteArray.size (List.headD (dpC n l) { data := #[] }) ≤ 50000) && decide (ByteArray.size (duV n l) ≤ 50000) && tblB (asTb (PV.agg [PV.str (TblT.name (dpT n l)), PV.str (TblT.glob (dpT n l)), PV.sl (List.length (TblT.cols (dpT n l))) (List.map PV.str (TblT.cols (dpT n l))), PV.sl (List.length (TblT.idxs (dpT n l))) (List.map PV.str (TblT.idxs (dpT n l)))])) && unpB (asTb (PV.agg [PV.str (TblT.name (dpT n l)), PV.str (TblT.glob (dpT n l)), PV.sl (List.length (TblT.cols (dpT n l))) (List.map PV.str (TblT.cols (dpT n l))), PV.sl (List.length (TblT.idxs (dpT n l))) (List.map PV.str (TblT.idxs (dpT n l)))])) (List.headD (dpC n l) { data := #[] }) (duV n l))
                      (some ((IV.cv (CV.pv (PV.bool false)), [])))
                      (brC (isTb (PV.agg [PV.str (TblT.name (dpT n l)), PV.str (TblT.glob (dpT n l)), PV.sl (List.length (TblT.cols (dpT n l))) (List.map PV.str (TblT.cols (dpT n l))), PV.sl (List.length (TblT.idxs (dpT n l))) (List.map PV.str (TblT.idxs (dpT n l)))]) && decide (ByteArray.size (List.headD (dpC n l) { data := #[] }) ≤ 50000) && decide (ByteArray.size (duV n l) ≤ 50000) && tblB (asTb (PV.agg [PV.str (TblT.name (dpT n l)), PV.str (TblT.glob (dpT n l)), PV.sl (List.length (TblT.cols (dpT n l))) (List.map PV.str (TblT.cols (dpT n l))), PV.sl (List.length (TblT.idxs (dpT n l))) (List.map PV.str (TblT.idxs (dpT n l)))])))
                        (some ((IV.cv (CV.pv (PV.bool false)), [])))
                        (brC (isTb (PV.agg [PV.str (TblT.name (dpT n l)), PV.str (TblT.glob (dpT n l)), PV.sl (List.length (TblT.cols (dpT n l))) (List.map PV.str (TblT.cols (dpT n l))), PV.sl (List.length (TblT.idxs (dpT n l))) (List.map PV.str (TblT.idxs (dpT n l)))]) && decide (ByteArray.size (List.headD (dpC n l) { data := #[] }) ≤ 50000) && decide (ByteArray.size (duV n l) ≤ 50000))
                          (some ((IV.cv (CV.pv (PV.bool false)), [])))
                          (none))))
                    (brC (isTb (PV.agg [PV.str (TblT.name (dpT n l)), PV.str (TblT.glob (dpT n l)), PV.sl (List.length (TblT.cols (dpT n l))) (List.map PV.str (TblT.cols (dpT n l))), PV.sl (List.length (TblT.idxs (dpT n l))) (List.map PV.str (TblT.idxs (dpT n l)))]) && decide (ByteArray.size (List.headD (dpC n l) { data := #[] }) ≤ 50000) && decide (ByteArray.size (duV n l) ≤ 50000) && tblB (asTb (PV.agg [PV.str (TblT.name (dpT n l)), PV.str (TblT.glob (dpT n l)), PV.sl (List.length (TblT.cols (dpT n l))) (List.map PV.str (TblT.cols (dpT n l))), PV.sl (List.length (TblT.idxs (dpT n l))) (List.map PV.str (TblT.idxs (dpT n l)))])))
                      (brC (isTb (PV.agg [PV.str (TblT.name (dpT n l)), PV.str (TblT.glob (dpT n l)), PV.sl (List.length (TblT.cols (dpT n l))) (List.map PV.str (TblT.cols (dpT n l))), PV.sl (List.length (TblT.idxs (dpT n l))) (List.map PV.str (TblT.idxs (dpT n l)))]) && decide (ByteArray.size (List.headD (dpC n l) { data := #[] }) ≤ 50000) && decide (ByteArray.size (duV n l) ≤ 50000) && tblB (asTb (PV.agg [PV.str (TblT.name (dpT n l)), PV.str (TblT.glob (dpT n l)), PV.sl (List.length (TblT.cols (dpT n l))) (List.map PV.str (TblT.cols (dpT n l))), PV.sl (List.length (TblT.idxs (dpT n l))) (List.map PV.str (TblT.idxs (dpT n l)))])) && unpB (asTb (PV.agg [PV.str (TblT.name (dpT n l)), PV.str (TblT.glob (dpT n l)), PV.sl (List.length (TblT.cols (dpT n l))) (List.map PV.str (TblT.cols (dpT n l))), PV.sl (List.length (TblT.idxs (dpT n l))) (List.map PV.str (TblT.idxs (dpT n l)))])) (List.headD (dpC n l) { data := #[] }) (duV n l))
                        (some ((IV.cv (CV.pv (PV.bool false)), [])))
                        (brC (isTb (PV.agg [PV.str (TblT.name (dpT n l)), PV.str (TblT.glob (dpT n l)), PV.sl (List.length (TblT.cols (dpT n l))) (List.map PV.str (TblT.cols (dpT n l))), PV.sl (List.length (TblT.idxs (dpT n l))) (List.map PV.str (TblT.idxs (dpT n l)))]) && decide (ByteArray.size (List.headD (dpC n l) { data := #[] }) ≤ 50000) && decide (ByteArray.size (duV n l) ≤ 50000) && tblB (asTb (PV.agg [PV.str (TblT.name (dpT n l)), PV.str (TblT.glob (dpT n l)), PV.sl (List.length (TblT.cols (dpT n l))) (List.map PV.str (TblT.cols (dpT n l))), PV.sl (List.length (TblT.idxs (dpT n l))) (List.map PV.str (TblT.idxs (dpT n l)))])))
                          (some ((IV.cv (CV.pv (PV.bool false)), [])))
                          (brC (isTb (PV.agg [PV.str (TblT.name (dpT n l)), PV.str (TblT.glob (dpT n l)), PV.sl (List.length (TblT.cols (dpT n l))) (List.map PV.str (TblT.cols (dpT n l))), PV.sl (List.length (TblT.idxs (dpT n l))) (List.map PV.str (TblT.idxs (dpT n l)))]) && decide (ByteArray.size (List.headD (dpC n l) { data := #[] }) ≤ 50000) && decide (ByteArray.size (duV n l) ≤ 50000))
                            (some ((IV.cv (CV.pv (PV.bool false)), [])))
                            (none))))
                      (brC (isTb (PV.agg [PV.str (TblT.name (dpT n l)), PV.str (TblT.glob (dpT n l)), PV.sl (List.length (TblT.cols (dpT n l))) (List.map PV.str (TblT.cols (dpT n l))), PV.sl (List.length (TblT.idxs (dpT n l))) (List.map PV.str (TblT.idxs (dpT n l)))]) && decide (ByteArray.size (List.headD (dpC n l) { data := #[] }) ≤ 50000) && decide (ByteArray.size (duV n l) ≤ 50000))
                        (brC (isTb (PV.agg [PV.str (TblT.name (dpT n l)), PV.str (TblT.glob (dpT n l)), PV.sl (List.length (TblT.cols (dpT n l))) (List.map PV.str (TblT.cols (dpT n l))), PV.sl (List.length (TblT.idxs (dpT n l))) (List.map PV.str (TblT.idxs (dpT n l)))]) && decide (ByteArray.size (List.headD (dpC n l) { data := #[] }) ≤ 50000) && decide (ByteArray.size (duV n l) ≤ 50000) && tblB (asTb (PV.agg [PV.str (TblT.name (dpT n l)), PV.str (TblT.glob (dpT n l)), PV.sl (List.length (TblT.cols (dpT n l))) (List.map PV.str (TblT.cols (dpT n l))), PV.sl (List.length (TblT.idxs (dpT n l))) (List.map PV.str (TblT.idxs (dpT n l)))])) && unpB (asTb (PV.agg [PV.str (TblT.name (dpT n l)), PV.str (TblT.glob (dpT n l)), PV.sl (List.length (TblT.cols (dpT n l))) (List.map PV.str (TblT.cols (dpT n l))), PV.sl (List.length (TblT.idxs (dpT n l))) (List.map PV.str (TblT.idxs (dpT n l)))])) (List.headD (dpC n l) { data := #[] }) (duV n l))
                          (some ((IV.cv (CV.pv (PV.bool false)), [])))
                          (brC (isTb (PV.agg [PV.str (TblT.name (dpT n l)), PV.str (TblT.glob (dpT n l)), PV.sl (List.length (TblT.cols (dpT n l))) (List.map PV.str (TblT.cols (dpT n l))), PV.sl (List.length (TblT.idxs (dpT n l))) (List.map PV.str (TblT.idxs (dpT n l)))]) && decide (ByteArray.size (List.headD (dpC n l) { data := #[] }) ≤ 50000) && decide (ByteArray.size (duV n l) ≤ 50000) && tblB (asTb (PV.agg [PV.str (TblT.name (dpT n l)), PV.str (TblT.glob (dpT n l)), PV.sl (List.length (TblT.cols (dpT n l))) (List.map PV.str (TblT.cols (dpT n l))), PV.sl (List.length (TblT.idxs (dpT n l))) (List.map PV.str (TblT.idxs (dpT n l)))])))
                            (some ((IV.cv (CV.pv (PV.bool false)), [])))
                            (brC (isTb (PV.agg [PV.str (TblT.name (dpT n l)), PV.str (TblT.glob (dpT n l)), PV.sl (List.length (TblT.cols (dpT n l))) (List.map PV.str (TblT.cols (dpT n l))), PV.sl (List.length (TblT.idxs (dpT n l))) (List.map PV.str (TblT.idxs (dpT n l)))]) && decide (ByteArray.size (List.headD (dpC n l) { data := #[] }) ≤ 50000) && decide (ByteArray.size (duV n l) ≤ 50000))
                              (some ((IV.cv (CV.pv (PV.bool false)), [])))
                              (none))))
                        (none))))
                  (none))
                (none))))
          (none))
        (none))
      (brC (isTb (PV.agg [PV.str (TblT.name (dpT n l)), PV.str (TblT.glob (dpT n l)), PV.sl (List.length (TblT.cols (dpT n l))) (List.map PV.str (TblT.cols (dpT n l))), PV.sl (List.length (TblT.idxs (dpT n l))) (List.map PV.str (TblT.idxs (dpT n l)))]) && isRw (PV.agg [PV.sl (List.length (dpC n l)) (List.map PV.str (dpC n l))]))
        (brC (isTb (PV.agg [PV.str (TblT.name (dpT n l)), PV.str (TblT.glob (dpT n l)), PV.sl (List.length (TblT.cols (dpT n l))) (List.map PV.str (TblT.cols (dpT n l))), PV.sl (List.length (TblT.idxs (dpT n l))) (List.map PV.str (TblT.idxs (dpT n l)))]) && isRw (PV.agg [PV.sl (List.length (dpC n l)) (List.map PV.str (dpC n l))]))
          (some ((IV.cv (CV.pv (PV.bool !(tblB (asTb (PV.agg [PV.str (TblT.name (dpT n l)), PV.str (TblT.glob (dpT n l)), PV.sl (List.length (TblT.cols (dpT n l))) (List.map PV.str (TblT.cols (dpT n l))), PV.sl (List.length (TblT.idxs (dpT n l))) (List.map PV.str (TblT.idxs (dpT n l)))])) && rowB (asTb (PV.agg [PV.str (TblT.name (dpT n l)), PV.str (TblT.glob (dpT n l)), PV.sl (List.length (TblT.cols (dpT n l))) (List.map PV.str (TblT.cols (dpT n l))), PV.sl (List.length (TblT.idxs (dpT n l))) (List.map PV.str (TblT.idxs (dpT n l)))])) (asRw (PV.agg [PV.sl (List.length (dpC n l)) (List.map PV.str (dpC n l))]))))), [])))
          (none))
        (none)))
    (none)) := by kernel_rfl
end

section
open Go.RowKit
set_option linter.unusedVariables false
set_option linter.unusedSimpArgs false
set_option maxRecDepth 100000

theorem ok_big2 : EntryOk Tryz.prog 10 E_big2 := entry_of mix (tab := []) trivial (lp := []) (LO := LO0) ⟨Tryz.func10, by kernel_rfl, by kernel_rfl⟩ (by kernel_rfl) fun ivs res bxs h => by
  unfold E_big2 at h
  split at h
  · rename_i n l m k
    obtain ⟨hc, he⟩ := pick1 h
    cases he
    refine ⟨noLoop (by kernel_rfl), (q_big2_eq n m l k).trans ?_⟩
    cases decide ((n : Int) > 1048576) <;> rfl
  · cases h
theorem ok_plab : EntriesOk Tryz.prog plab := ⟨ok_big2, ok_DPR, ok_PackRow, ok_SRowOk, ok_UnpackRow, ok_DUR, ok_SUnpRow, ok_SmR, trivial⟩
theorem cells_sh (b : TblT) {k v : ByteArray} (hk : k.size ≤ 50000) (hv : v.size ≤ 50000) : shL (cellsW b k v) := by
  rw [cellsW_eq]
  have hsh := cut_sh hv
  split
  · refine ⟨?_, fun u hu => ?_⟩
    · have h4 := (join_len (datas (cutV v))).1
      rw [(cut_facts v).1, List.length_map] at h4
      have hq : v.data.toList.length = v.size := by rw [Array.length_toList]; rfl
      rw [List.length_cons]
      omega
    · rcases List.mem_cons.1 hu with rfl | hu
      · omega
      · exact hsh.2 u hu
  · exact ⟨by simp, fun u hu => by rw [List.mem_singleton.1 hu]; omega⟩
theorem row_unp {b : TblT} {c : ByteArray} {cs : List ByteArray} (hB : tblB b = true) (hR : rowB b (c :: cs) = true) : unpB b c (bs (packL (c :: cs))) = true ∧ cellsW b c (bs (packL (c :: cs))) = c :: cs := by
  have hc : cellsW b c (bs (packL (c :: cs))) = c :: cs := row_back hR (tblB_cols hB).1 (by show (packL (c :: cs)).toArray.toList = _; simp)
  refine ⟨?_, hc⟩
  unfold unpB
  rw [hc, hR, Bool.true_and]
  have := (pack_cells b c (bs (packL (c :: cs)))).1
  rw [hc] at this
  exact this (by show _ = (packL (c :: cs)).toArray.toList; simp)
theorem fp_any (n : Nat) (l : List PV) (hw : wfB n l = true) : q_fp brC n l = some (cB true, []) := by
  have tree := q_fp_eq n l
  by_cases hn : (n : Int) > 1048576
  · rw [dT hn] at tree
    exact tree.trans rfl
  have hn' : n ≤ 1048577 := by omega
  obtain ⟨g1, g2, _, _⟩ := dp_facts hw hn'
  obtain ⟨d1, d2⟩ := du_size hw hn'
  rw [dF hn, hw, dT hn'] at tree
  have sb := g1.sh
  generalize hb0 : dpT n l = b at tree g1 sb
  generalize hc0 : dpC n l = cs at tree d2 g2
  generalize duV n l = v at tree d1
  have sc := g2.2.shL (by omega)
  have f1 : isTb (PV.agg [PV.str b.name, PV.str b.glob, PV.sl b.cols.length (b.cols.map PV.str), PV.sl b.idxs.length (b.idxs.map PV.str)]) = true := isTb_mk sb
  have f3 : asTb (PV.agg [PV.str b.name, PV.str b.glob, PV.sl b.cols.length (b.cols.map PV.str), PV.sl b.idxs.length (b.idxs.map PV.str)]) = b := asTb_mk b
  have f4 : isRw (PV.agg [PV.sl cs.length (cs.map .str)]) = true := isRw_mk sc
  have f5 : asRw (PV.agg [PV.sl cs.length (cs.map .str)]) = cs := asRw_mk cs
  have f6 : isL (PV.sl cs.length (cs.map .str)) = true := isL_mk sc
  have f7 : asL (PV.sl cs.length (cs.map .str)) = cs := asL_mk cs
  rw [f1, f3, f4, f5] at tree
  cases hBR : (tblB b && rowB b cs) with
  | false =>
    have e : (true && true && tblB b && rowB b cs) = false := hBR
    rw [e, hBR] at tree
    exact tree.trans rfl
  | true =>
    rw [Bool.and_eq_true] at hBR
    obtain ⟨hB, hR⟩ := hBR
    cases cs with
    | nil => exact absurd g2.1 (by simp)
    | cons c cs =>
      obtain ⟨u1, u2⟩ := row_unp hB hR
      obtain ⟨p1, p2⟩ := row_pack hB hR
      have z1 : PV.asStr (List.headD (List.drop 0 (List.map PV.str (c :: cs))) PV.nilp) = c := rfl
      have z2 : List.headD (c :: cs) ⟨#[]⟩ = c := rfl
      rw [z2] at d2
      have d3 : c.size ≤ 50000 := by omega
      have d4 : v.size ≤ 50000 := by omega
      have d5 : (bs (packL (c :: cs))).size ≤ 50000 := by rw [bs_len]; omega
      have hs : sameX (c :: cs) (c :: cs) = true := holds_mk rfl
      have sw := cells_sh b d3 d4
      have f8 : isRw (PV.agg [PV.sl (cellsW b c v).length ((cellsW b c v).map .str)]) = true := isRw_mk sw
      have f9 : asRw (PV.agg [PV.sl (cellsW b c v).length ((cellsW b c v).map .str)]) = cellsW b c v := asRw_mk _
      rw [z1, z2, hB, hR, u1, u2, f6, f7, hs, dT d3, dT d4, dT d5, f8, f9, dT (show (0 : Int) < ((c :: cs).length : Int) by rw [List.length_cons]; omega)] at tree
      cases hu : unpB b c v with
      | false =>
        rw [hu] at tree
        exact tree.trans rfl
      | true =>
        have hu2 := hu
        unfold unpB at hu2
        rw [Bool.and_eq_true] at hu2
        have e : (ByteArray.toList (bs (packL (cellsW b c v))) == ByteArray.toList v) = true := by
          rw [bs_toList, ByteArray.toList_eq, beq_iff_eq]
          exact (pack_cells b c v).2 hu2.2
        rw [hu, hu2.1, e] at tree
        exact tree.trans rfl
end

section
open Go.RowKit Go.ChangeShapes Go.WideShapes
set_option linter.unusedVariables false
set_option linter.unusedSimpArgs false

theorem row_top {w : World} {b : Nat} {xs : List Value} (h : ∃ t f, w.heap[b]? = some (.cells xs.toArray t f)) : GlRow w (comTop w) b xs := by
  obtain ⟨t, f, h⟩ := h
  refine ⟨⟨t, f, h⟩, ?_⟩
  unfold comTop
  rw [h]
  simp
theorem tabIs_row {w : World} {name : String} {g : Nat} {k : IntKind} {zs : List Int} (hg : Tryz.prog.globalNamed name = some g) (h : Lib.TabIs Tryz.prog w name k zs) : GlRow w (comTop w) g (zs.map fun z => Value.int k z) := by
  unfold Lib.TabIs World.var? at h
  rw [hg] at h
  dsimp only [Option.bind_some] at h
  split at h
  · rename_i cs t f hb
    cases h
    exact row_top ⟨t, f, hb⟩
  · cases h
theorem gl_top {w : World}
  (hm : ∃ m : Int, w.cell? ⟨0, 0, none⟩ = some (.int .i64 m))
  : Gl w (comTop w) := by
  unfold Gl
  refine ⟨?_, ?_⟩
  · obtain ⟨m, hm⟩ := hm
    exact ⟨m, hm, comTop_at hm⟩
  trivial
/-- Bytes as an argument of a law. -/
theorem bytes_pv {w : World} {a : Option Addr} {len cap : Nat} {zs : List Int}
    (h : (a = none ∧ len = 0 ∧ cap = 0 ∧ zs = []) ∨ ∃ x, a = some x ∧ len ≤ cap ∧ cap ≤ maxLen ∧ zs.length = cap ∧ (∀ i, i < zs.length → w.cell? (x.add i) = some (.int .u8 (zs.getD i 0))) ∧ ∀ n ∈ zs, (Lit.int .u8 n).wf = true) :
    ∃ n l, PRep w (comTop w) (.slice a len cap) (.sl n l) ∧ wfB n l = true := by
  rcases h with ⟨rfl, rfl, rfl, rfl⟩ | ⟨x, rfl, hlc, hm, hz, hc, hw⟩
  · exact ⟨0, [], .sl0 none 0, rfl⟩
  · by_cases h0 : len = 0
    · subst h0
      exact ⟨0, [], .sl0 _ _, rfl⟩
    obtain ⟨b, off, spot⟩ := x
    have hc0 := hc 0 (by omega)
    have hspot : spot = none := by simpa [Addr.add] using World.cell?_spot hc0
    subst hspot
    have hcell : ∀ i, i < zs.length → w.cell? ⟨b, off + i, none⟩ = some (.int .u8 (zs.getD i 0)) := by
      intro i hi
      have := hc i hi
      have ea : (⟨b, off, none⟩ : Addr).add i = ⟨b, off + i, none⟩ := by unfold Addr.add; split <;> simp_all
      rwa [ea] at this
    have hr : ∀ z ∈ zs, 0 ≤ z ∧ z < 256 := by
      intro z hzm
      have hb := bounds_u8 (hw z hzm)
      omega
    refine ⟨len, (zs.take len).map fun z => .int .u8 z, .sl b off len cap ((zs.take len).map fun z => .int .u8 z) _ hlc (by simp) (fun v hv => ?_) (fun i hi => ?_) (fun i v hv => ?_) (fun i h1 h2 => ?_), ?_⟩
    · obtain ⟨z, _, rfl⟩ := List.mem_map.1 hv
      rfl
    · simp at hi
      exact comTop_at (hcell i (by omega))
    · rw [List.getElem?_map, Option.map_eq_some_iff] at hv
      obtain ⟨z, hz', rfl⟩ := hv
      rw [List.getElem?_take] at hz'
      split at hz'
      · have hi := (List.getElem?_eq_some_iff.1 hz').1
        rw [hcell i hi, List.getD_eq_getElem?_getD, hz']
        rfl
      · cases hz'
    · simp only [List.getElem_map]
      exact .int _ _
    · unfold wfB
      rw [Bool.and_eq_true]
      refine ⟨?_, ?_⟩
      · have : ((zs.take len).map fun z => PV.int .u8 z).length = len := by simp; omega
        rw [this]
        exact Nat.beq_refl _
      · rw [List.all_eq_true]
        intro p hp
        obtain ⟨z, hzm, rfl⟩ := List.mem_map.1 hp
        obtain ⟨h1, h2⟩ := hr z (List.mem_of_mem_take hzm)
        show (decide (IntKind.u8 = IntKind.u8) && decide (0 ≤ z) && decide (z < 256)) = true
        rw [decide_eq_true rfl, decide_eq_true h1, decide_eq_true h2]
        rfl
end

section
open Go.RowKit
set_option linter.unusedVariables false
theorem FnPacks_walk (v : Value) (n : Nat) (l : List PV) (w : World) (hv : PRep w (comTop w) v (.sl n l)) (hw : wfB n l = true) (hgl : Gl w (comTop w)) :
    Calls Tryz.prog 3 #[v] w fun e w' => e = .returned (.bool true) ∧ Below w.heap.size w w' := by
  have hc : Contract Tryz.prog 3 ([.sl n l].map fun p => .cv (.pv p)) (.cv (.pv (.bool true))) [] :=
    fun_okB mix (tabL_ok (l := plab) ok_plab) (O := OL []) (LO := LO0) ⟨Tryz.func3, by kernel_rfl, by kernel_rfl⟩ (by kernel_rfl) rfl (noLoop (by kernel_rfl)) (fp_any n l hw)
  exact hc.lawTop (w := w) (vals := [v]) (PReps.cons hv (PReps.nil _ _)) hgl
end
end Go.Proofs.YtjbjgeekglpmlaaGreatDoor
