import Derived.Test.YtbeebeamdjbkmaaGreatDoorXXk
namespace Go.Proofs.YtbeebeamdjbkmaaGreatDoor
noncomputable section
set_option linter.unusedVariables false
set_option maxRecDepth 100000
set_option linter.unusedSimpArgs false
section
def zzbb0 (t : List NodeT) (b : TblT) := (PV.agg [PV.str (TblT.name (asTb (PV.agg [PV.str (TblT.name b), PV.str (TblT.glob b), PV.sl (List.length (TblT.cols b)) (List.map PV.str (TblT.cols b)), PV.sl (List.length (TblT.idxs b)) (List.map PV.str (TblT.idxs b))]))), PV.str (TblT.glob (asTb (PV.agg [PV.str (TblT.name b), PV.str (TblT.glob b), PV.sl (List.length (TblT.cols b)) (List.map PV.str (TblT.cols b)), PV.sl (List.length (TblT.idxs b)) (List.map PV.str (TblT.idxs b))]))), PV.sl (List.length (TblT.cols (asTb (PV.agg [PV.str (TblT.name b), PV.str (TblT.glob b), PV.sl (List.length (TblT.cols b)) (List.map PV.str (TblT.cols b)), PV.sl (List.length (TblT.idxs b)) (List.map PV.str (TblT.idxs b))])))) (List.map PV.str (TblT.cols (asTb (PV.agg [PV.str (TblT.name b), PV.str (TblT.glob b), PV.sl (List.length (TblT.cols b)) (List.map PV.str (TblT.cols b)), PV.sl (List.length (TblT.idxs b)) (List.map PV.str (TblT.idxs b))])))), PV.sl (List.length (TblT.idxs (asTb (PV.agg [PV.str (TblT.name b), PV.str (TblT.glob b), PV.sl (List.length (TblT.cols b)) (List.map PV.str (TblT.cols b)), PV.sl (List.length (TblT.idxs b)) (List.map PV.str (TblT.idxs b))])))) (List.map PV.str (TblT.idxs (asTb (PV.agg [PV.str (TblT.name b), PV.str (TblT.glob b), PV.sl (List.length (TblT.cols b)) (List.map PV.str (TblT.cols b)), PV.sl (List.length (TblT.idxs b)) (List.map PV.str (TblT.idxs b))]))))])
def zzbb1 (t : List NodeT) (b : TblT) := (rowsV (asT (PV.agg [PV.sl (List.length (asT (PV.agg [PV.sl (List.length t) (encN t)]))) (encN (asT (PV.agg [PV.sl (List.length t) (encN t)])))])) (asTb (zzbb0 t b)))
def zzbb2 (t : List NodeT) (b : TblT) := (PV.agg [PV.str (TblT.name b), PV.str (TblT.glob b), PV.sl (List.length (TblT.cols b)) (List.map PV.str (TblT.cols b)), PV.sl (List.length (TblT.idxs b)) (List.map PV.str (TblT.idxs b))])
def zzbb3 (t : List NodeT) (b : TblT) := (PV.agg [PV.sl (List.length (asT (PV.agg [PV.sl (List.length t) (encN t)]))) (encN (asT (PV.agg [PV.sl (List.length t) (encN t)])))])
def zzbb4 (t : List NodeT) (b : TblT) := (PV.sl (List.length (zzbb1 t b)) (encRo (mkRos 1 (asRos (PV.sl (List.length (zzbb1 t b)) (encRo (zzbb1 t b)))))))
def zzbb5 (t : List NodeT) (b : TblT) := (PV.sl (List.length (zzbb1 t b)) (encRo (zzbb1 t b)))
theorem jgZ (t : List NodeT) (b : TblT) : q_smA brC t b =
 brC (isTw (PV.agg [PV.sl (List.length t) (encN t)]) && inK 1048576)
 (brC (decide (szTr (asT (PV.agg [PV.sl (List.length t) (encN t)])) 1048576 < 0))
 (some ((.cv (.pv (.bool true)), [])))
 (brC (isTbw (zzbb2 t b) && inK (szTr (asT (PV.agg [PV.sl (List.length t) (encN t)])) 1048576))
 (brC (decide (szTb (asTb (zzbb2 t b)) (szTr (asT (PV.agg [PV.sl (List.length t) (encN t)])) 1048576) < 0))
 (some ((.cv (.pv (.bool true)), [])))
 (brC (isT (PV.agg [PV.sl (List.length t) (encN t)]))
 (brC (isTb (zzbb2 t b))
 (brC (isT (zzbb3 t b) && isTb (zzbb0 t b) && rwsX (asT (zzbb3 t b)) (asTb (zzbb0 t b)) == 0)
 (brC (isT (PV.agg [PV.sl (List.length t) (encN t)]))
 (brC (isTb (zzbb2 t b))
 (brC (isT (zzbb3 t b) && isTb (zzbb0 t b) && rwsX (asT (zzbb3 t b)) (asTb (zzbb0 t b)) == 0)
 (brC (IV.ownB (@Prod.fst IV (List (List CV)) (.tup [.cv (.dls 1 46 (List.length (zzbb1 t b)) (encRo (zzbb1 t b))), cI 0], [])) && jcx [])
 (brC (isRos (zzbb5 t b) && isRos (zzbb5 t b))
 (brC (!holds (asRos (zzbb5 t b) = asRos (zzbb5 t b)))
 (some ((.cv (.pv (.bool false)), [])))
 (brC (isT (PV.agg [PV.sl (List.length t) (encN t)]))
 (brC (isT (zzbb3 t b) && isT (zzbb3 t b))
 (brC (!holds (asT (zzbb3 t b) = asT (zzbb3 t b)))
 (some ((.cv (.pv (.bool false)), [])))
 (brC (isTb (zzbb2 t b))
 (brC (isTb (zzbb0 t b) && isTb (zzbb0 t b))
 (brC (!holds (asTb (zzbb0 t b) = asTb (zzbb0 t b)))
 (some ((.cv (.pv (.bool false)), [])))
 (brC (Nat.beq (70 + 2000000) 2000070 && isNs (PV.sl (List.length (asT (PV.agg [PV.sl (List.length t) (encN t)]))) (encN (asT (PV.agg [PV.sl (List.length t) (encN t)])))) && mrkB 1 && holds (mkNdE 1 (asNs (PV.sl (List.length (asT (PV.agg [PV.sl (List.length t) (encN t)]))) (encN (asT (PV.agg [PV.sl (List.length t) (encN t)]))))) ≤ 800000000))
 (brC (isL (PV.sl (List.length (TblT.cols (asTb (zzbb2 t b)))) (List.map PV.str (TblT.cols (asTb (zzbb2 t b))))) && isL (PV.sl (List.length (TblT.idxs (asTb (zzbb2 t b)))) (List.map PV.str (TblT.idxs (asTb (zzbb2 t b))))) && Nat.beq 9 9 && Nat.beq 9 9 && decide (1 ≤ mkNdE 1 (asNs (PV.sl (List.length (asT (PV.agg [PV.sl (List.length t) (encN t)]))) (encN (asT (PV.agg [PV.sl (List.length t) (encN t)])))))) && holds (mkNdE 1 (asNs (PV.sl (List.length (asT (PV.agg [PV.sl (List.length t) (encN t)]))) (encN (asT (PV.agg [PV.sl (List.length t) (encN t)]))))) ≤ 800000000))
 (brC (decide (mkNdE 1 (asNs (PV.sl (List.length (asT (PV.agg [PV.sl (List.length t) (encN t)]))) (encN (asT (PV.agg [PV.sl (List.length t) (encN t)]))))) + (↑(List.length (TblT.cols (asTb (zzbb2 t b)))) : Int) + (↑(List.length (TblT.idxs (asTb (zzbb2 t b)))) : Int) < 0))
 (some ((.cv (.pv (.bool false)), [])))
 (brC (isRos (zzbb5 t b) && isRos (zzbb5 t b))
 (brC (!holds (asRos (zzbb5 t b) = asRos (zzbb5 t b)))
 (some ((.cv (.pv (.bool false)), [])))
 (brC (Nat.beq (46 + 2000000) 2000046 && isRos (zzbb5 t b) && mrkB 1 && holds (mkRoE 1 (asRos (zzbb5 t b)) ≤ 800000000))
 (brC (isRos (zzbb4 t b) && mrkB 1 && holds (mkRoE 1 (asRos (zzbb4 t b)) ≤ 800000000) && holds (asRos (zzbb4 t b) = mkRos 1 (asRos (zzbb4 t b))))
 (brC (decide (mkRoE 1 (asRos (zzbb4 t b)) < 0))
 (some ((.cv (.pv (.bool false)), [])))
 (brC (mkRoE 1 (asRos (zzbb4 t b)) != mkRoE 1 (asRos (zzbb5 t b)))
 (some ((.cv (.pv (.bool false)), [])))
 (brC (isT (PV.agg [PV.sl (List.length t) (encN t)]))
 (brC (isTb (zzbb2 t b))
 (brC (isT (zzbb3 t b) && isTb (zzbb0 t b) && rwsX (asT (zzbb3 t b)) (asTb (zzbb0 t b)) == 0)
 (brC (isRos (zzbb5 t b) && isRos (zzbb5 t b))
 (brC (!holds (asRos (zzbb5 t b) = asRos (zzbb5 t b)))
 (some ((.cv (.pv (.bool false)), [])))
 (brC (isRos (zzbb4 t b) && mrkB 1 && holds (mkRoE 1 (asRos (zzbb4 t b)) ≤ 800000000) && holds (asRos (zzbb4 t b) = mkRos 1 (asRos (zzbb4 t b))))
 (brC (decide (mkRoE 1 (asRos (zzbb4 t b)) < 0))
 (some ((.cv (.pv (.bool false)), [])))
 (brC (mkRoE 1 (asRos (zzbb4 t b)) != mkRoE 1 (asRos (zzbb5 t b)))
 (some ((.cv (.pv (.bool false)), [])))
 (some ((.cv (.pv (.bool true)), [])))))
 none))
 none)
 none)
 none)
 none)))
 none)
 none))
 none))
 none)
 none))
 none)
 none))
 none)
 none))
 none)
 none)
 none)
 none)
 none)
 none)
 none)
 none))
 none))
 none := by kernel_rfl
def zzbc0 (t : List NodeT) (b : TblT) := (PV.agg [PV.str (TblT.name (asTb (PV.agg [PV.str (TblT.name b), PV.str (TblT.glob b), PV.sl (List.length (TblT.cols b)) (List.map PV.str (TblT.cols b)), PV.sl (List.length (TblT.idxs b)) (List.map PV.str (TblT.idxs b))]))), PV.str (TblT.glob (asTb (PV.agg [PV.str (TblT.name b), PV.str (TblT.glob b), PV.sl (List.length (TblT.cols b)) (List.map PV.str (TblT.cols b)), PV.sl (List.length (TblT.idxs b)) (List.map PV.str (TblT.idxs b))]))), PV.sl (List.length (TblT.cols (asTb (PV.agg [PV.str (TblT.name b), PV.str (TblT.glob b), PV.sl (List.length (TblT.cols b)) (List.map PV.str (TblT.cols b)), PV.sl (List.length (TblT.idxs b)) (List.map PV.str (TblT.idxs b))])))) (List.map PV.str (TblT.cols (asTb (PV.agg [PV.str (TblT.name b), PV.str (TblT.glob b), PV.sl (List.length (TblT.cols b)) (List.map PV.str (TblT.cols b)), PV.sl (List.length (TblT.idxs b)) (List.map PV.str (TblT.idxs b))])))), PV.sl (List.length (TblT.idxs (asTb (PV.agg [PV.str (TblT.name b), PV.str (TblT.glob b), PV.sl (List.length (TblT.cols b)) (List.map PV.str (TblT.cols b)), PV.sl (List.length (TblT.idxs b)) (List.map PV.str (TblT.idxs b))])))) (List.map PV.str (TblT.idxs (asTb (PV.agg [PV.str (TblT.name b), PV.str (TblT.glob b), PV.sl (List.length (TblT.cols b)) (List.map PV.str (TblT.cols b)), PV.sl (List.length (TblT.idxs b)) (List.map PV.str (TblT.idxs b))]))))])
def zzbc1 (t : List NodeT) (b : TblT) := (PV.agg [PV.str (TblT.name b), PV.str (TblT.glob b), PV.sl (List.length (TblT.cols b)) (List.map PV.str (TblT.cols b)), PV.sl (List.length (TblT.idxs b)) (List.map PV.str (TblT.idxs b))])
def zzbc2 (t : List NodeT) (b : TblT) := (PV.agg [PV.sl (List.length (asT (PV.agg [PV.sl (List.length t) (encN t)]))) (encN (asT (PV.agg [PV.sl (List.length t) (encN t)])))])
theorem jrv (t : List NodeT) (b : TblT) : q_smB brC t b =
 brC (isTw (PV.agg [PV.sl (List.length t) (encN t)]) && inK 1048576)
 (brC (decide (szTr (asT (PV.agg [PV.sl (List.length t) (encN t)])) 1048576 < 0))
 (some ((.cv (.pv (.bool true)), [])))
 (brC (isTbw (zzbc1 t b) && inK (szTr (asT (PV.agg [PV.sl (List.length t) (encN t)])) 1048576))
 (brC (decide (szTb (asTb (zzbc1 t b)) (szTr (asT (PV.agg [PV.sl (List.length t) (encN t)])) 1048576) < 0))
 (some ((.cv (.pv (.bool true)), [])))
 (brC (isT (PV.agg [PV.sl (List.length t) (encN t)]))
 (brC (isTb (zzbc1 t b))
 (brC (isT (zzbc2 t b) && isTb (zzbc0 t b) && !rwsX (asT (zzbc2 t b)) (asTb (zzbc0 t b)) == 0)
 (brC (isT (PV.agg [PV.sl (List.length t) (encN t)]))
 (brC (isTb (zzbc1 t b))
 (brC (isT (zzbc2 t b) && isTb (zzbc0 t b) && !rwsX (asT (zzbc2 t b)) (asTb (zzbc0 t b)) == 0)
 (brC (isRos (PV.sl 0 []) && isRos (PV.sl 0 []))
 (brC (!holds (asRos (PV.sl 0 []) = asRos (PV.sl 0 [])))
 (some ((.cv (.pv (.bool false)), [])))
 (brC (rwsX (asT (zzbc2 t b)) (asTb (zzbc0 t b)) != rwsX (asT (zzbc2 t b)) (asTb (zzbc0 t b)))
 (some ((.cv (.pv (.bool false)), [])))
 (brC (isT (PV.agg [PV.sl (List.length t) (encN t)]))
 (brC (isT (zzbc2 t b) && isT (zzbc2 t b))
 (brC (!holds (asT (zzbc2 t b) = asT (zzbc2 t b)))
 (some ((.cv (.pv (.bool false)), [])))
 (brC (isTb (zzbc1 t b))
 (brC (isTb (zzbc0 t b) && isTb (zzbc0 t b))
 (brC (!holds (asTb (zzbc0 t b) = asTb (zzbc0 t b)))
 (some ((.cv (.pv (.bool false)), [])))
 (brC (Nat.beq (70 + 2000000) 2000070 && isNs (PV.sl (List.length (asT (PV.agg [PV.sl (List.length t) (encN t)]))) (encN (asT (PV.agg [PV.sl (List.length t) (encN t)])))) && mrkB 1 && holds (mkNdE 1 (asNs (PV.sl (List.length (asT (PV.agg [PV.sl (List.length t) (encN t)]))) (encN (asT (PV.agg [PV.sl (List.length t) (encN t)]))))) ≤ 800000000))
 (brC (isL (PV.sl (List.length (TblT.cols (asTb (zzbc1 t b)))) (List.map PV.str (TblT.cols (asTb (zzbc1 t b))))) && isL (PV.sl (List.length (TblT.idxs (asTb (zzbc1 t b)))) (List.map PV.str (TblT.idxs (asTb (zzbc1 t b))))) && Nat.beq 9 9 && Nat.beq 9 9 && decide (1 ≤ mkNdE 1 (asNs (PV.sl (List.length (asT (PV.agg [PV.sl (List.length t) (encN t)]))) (encN (asT (PV.agg [PV.sl (List.length t) (encN t)])))))) && holds (mkNdE 1 (asNs (PV.sl (List.length (asT (PV.agg [PV.sl (List.length t) (encN t)]))) (encN (asT (PV.agg [PV.sl (List.length t) (encN t)]))))) ≤ 800000000))
 (brC (decide (mkNdE 1 (asNs (PV.sl (List.length (asT (PV.agg [PV.sl (List.length t) (encN t)]))) (encN (asT (PV.agg [PV.sl (List.length t) (encN t)]))))) + (↑(List.length (TblT.cols (asTb (zzbc1 t b)))) : Int) + (↑(List.length (TblT.idxs (asTb (zzbc1 t b)))) : Int) < 0))
 (some ((.cv (.pv (.bool false)), [])))
 (brC (isRos (PV.sl 0 []) && isRos (PV.sl 0 []))
 (brC (!holds (asRos (PV.sl 0 []) = asRos (PV.sl 0 [])))
 (some ((.cv (.pv (.bool false)), [])))
 (brC (rwsX (asT (zzbc2 t b)) (asTb (zzbc0 t b)) != rwsX (asT (zzbc2 t b)) (asTb (zzbc0 t b)))
 (some ((.cv (.pv (.bool false)), [])))
 (brC (Nat.beq 0 0 && nilB [])
 (brC (isRos (PV.sl 0 []) && mrkB 1 && holds (mkRoE 1 (asRos (PV.sl 0 [])) ≤ 800000000) && holds (asRos (PV.sl 0 []) = mkRos 1 (asRos (PV.sl 0 []))))
 (brC (decide (mkRoE 1 (asRos (PV.sl 0 [])) < 0))
 (some ((.cv (.pv (.bool false)), [])))
 (brC (mkRoE 1 (asRos (PV.sl 0 [])) != 1)
 (some ((.cv (.pv (.bool false)), [])))
 (brC (isT (PV.agg [PV.sl (List.length t) (encN t)]))
 (brC (isTb (zzbc1 t b))
 (brC (isT (zzbc2 t b) && isTb (zzbc0 t b) && !rwsX (asT (zzbc2 t b)) (asTb (zzbc0 t b)) == 0)
 (brC (isRos (PV.sl 0 []) && isRos (PV.sl 0 []))
 (brC (!holds (asRos (PV.sl 0 []) = asRos (PV.sl 0 [])))
 (some ((.cv (.pv (.bool false)), [])))
 (brC (rwsX (asT (zzbc2 t b)) (asTb (zzbc0 t b)) != rwsX (asT (zzbc2 t b)) (asTb (zzbc0 t b)))
 (some ((.cv (.pv (.bool false)), [])))
 (brC (isRos (PV.sl 0 []) && mrkB 1 && holds (mkRoE 1 (asRos (PV.sl 0 [])) ≤ 800000000) && holds (asRos (PV.sl 0 []) = mkRos 1 (asRos (PV.sl 0 []))))
 (brC (decide (mkRoE 1 (asRos (PV.sl 0 [])) < 0))
 (some ((.cv (.pv (.bool false)), [])))
 (brC (mkRoE 1 (asRos (PV.sl 0 [])) != 1)
 (some ((.cv (.pv (.bool false)), [])))
 (some ((.cv (.pv (.bool true)), [])))))
 none)))
 none)
 none)
 none)
 none)))
 none)
 none)))
 none))
 none)
 none))
 none)
 none))
 none)
 none)))
 none)
 none)
 none)
 none)
 none)
 none)
 none))
 none))
 none := by kernel_rfl
end
section
open Go.RowKit
theorem juj {t : List NodeT} (h : shTw t) : isE pT shTw (.agg [.sl t.length (encN t)]) = true := jbt (enc := pT) h
theorem jrd {b : TblT} (h : shTbw b) : isE pTb shTbw (PV.agg [PV.str b.name, PV.str b.glob, PV.sl b.cols.length (b.cols.map PV.str), PV.sl b.idxs.length (b.idxs.map PV.str)]) = true := jbt (enc := pTb) h
theorem jt9 {l : List ByteArray} (h : shL l) (k : Int) : shL (mkL k l) := ⟨by rw [jcp]; exact h.1, fun x hx => by have := jsu l k x hx; omega⟩
theorem flatS (g : PV → Nat × TypeId → Bool) : ∀ (l : List ByteArray) (o : Nat), flatL g 1 9 o (l.map PV.str) = true
 | [], _ => rfl
 | x :: t, o => by
  have h0 : kidA 9 0 = none := by kernel_rfl
  show ((match kidA 9 (o % 1) with | none => PV.flatB (.str x) | some y => g (.str x) y) && flatL g 1 9 (o + 1) (t.map PV.str)) = true
  rw [Nat.mod_one, h0, flatS g t (o + 1)]
  rfl
theorem flatR (g : PV → Nat × TypeId → Bool) (hg : ∀ (n : Nat) (l : List ByteArray), g (.sl n (l.map PV.str)) (1, 9) = true) : ∀ (l : List RowT) (o : Nat), flatL g 1 46 o (encRo l) = true
 | [], _ => rfl
 | x :: t, o => by
  have h2 : kidA 46 0 = some (1, 9) := by kernel_rfl
  show ((match kidA 46 (o % 1) with | none => PV.flatB (pL x.cells) | some y => g (pL x.cells) y) && flatL g 1 46 (o + 1) (encRo t)) = true
  rw [Nat.mod_one, h2, flatR g hg t (o + 1)]
  have e : g (pL x.cells) (1, 9) = true := hg x.cells.length x.cells
  simp only [e, Bool.and_true]
theorem ju6 (l : List RowT) : flatK 4 1 46 (encRo l) = true := flatR _ (fun n l => flatS _ l 0) l 0
theorem jrf (n : Nat) (l : List RowT) (c : Int) : IV.ownB (IV.tup [IV.cv (.dls 1 46 n (encRo l)), cI c]) = true := by
 show (flatK 4 1 46 (encRo l) && (true && true)) = true
 rw [ju6]
 rfl
theorem jnT : ∀ (l : List RowT) (k : Int), (∀ x ∈ l, x.cells.length ≤ 5) → mkRoE k l ≤ k + 5 * l.length
 | [], k, _ => by show k ≤ _; simp
 | x :: t, k, h => by
  have h1 := h x (List.mem_cons_self ..)
  have ih := jnT t (k + (x.cells.length : Int)) fun y hy => h y (List.mem_cons_of_mem _ hy)
  show mkRoE (k + (x.cells.length : Int)) t ≤ _
  rw [nqH]
  omega
theorem jpb : ∀ (l : List RowT) (k : Int), (∀ x ∈ l, shR x) → ∀ x ∈ mkRos k l, shR x
 | [], _, _, x, hx => by cases hx
 | y :: t, k, h, x, hx => by
  rcases List.mem_cons.1 hx with rfl | hx
  ·exact jt9 (h y (List.mem_cons_self ..)) _
  ·exact jpb t _ (fun z hz => h z (List.mem_cons_of_mem _ hz)) x hx
theorem jls (b : TblT) : ∀ l : List NodeT, (rwsL b l).length = l.length
 | [] => rfl
 | x :: t => by
  show (rwsL b t).length + 1 = _
  rw [jls b t, nqH]
theorem jq9 (b : TblT) {k v : ByteArray} (hk : k.size ≤ 50000) (hv : v.size ≤ 50000) : shL (jav b k v) := by
 rw [jb8]
 have hsh := joK hv
 split
 ·refine ⟨?_, fun u hu => ?_⟩
  ·have h4 := (jdt (datas (cutV v))).1
   rw [(jca v).1, List.length_map] at h4
   have hq : v.data.toList.length = v.size := by rw [Array.length_toList]; rfl
   rw [nqH]
   omega
  ·rcases List.mem_cons.1 hu with rfl | hu
   ·omega
   ·exact hsh.2 u hu
 ·exact ⟨by simp, fun u hu => by rw [List.mem_singleton.1 hu]; omega⟩
theorem jqd {x : NodeT} {t : List NodeT} (h : nodR (x :: t) = true) : nodR t = true := by
 unfold nodR at h ⊢
 rw [List.all_cons] at h
 exact (andE h).2
theorem jp2 {b : TblT} (h5 : b.cols.length ≤ 5) : ∀ l : List NodeT, nodR l = true → l.all (unpN b) = true → ∀ x ∈ rwsL b l, shR x ∧ x.cells.length ≤ 5
 | [], _, _, x, hx => by cases hx
 | y :: t, hn, ha, x, hx => by
  rw [List.all_cons] at ha
  obtain ⟨h1, h2⟩ := andE ha
  obtain ⟨a, c, hs, hc, hv⟩ := jhn hn (show 0 < (y :: t).length by rw [nqH]; omega)
  have hs : y.subs = [a, c] := hs
  have hv : y.value.size ≤ 64 := hv
  rw [jcB hs] at hx
  rw [jea hs] at h1
  rcases List.mem_cons.1 hx with rfl | hx
  ·have hR : rowB b (jav b c y.value) = true := by unfold unpB at h1; exact (andE h1).1
   unfold rowB at hR
   obtain ⟨hR, _⟩ := andE hR
   obtain ⟨hR, _⟩ := andE hR
   have hR := nqI hR
   exact ⟨jq9 b (by omega) (by omega), by show (jav b c y.value).length ≤ 5; omega⟩
  ·exact jp2 h5 t (jqd hn) h2 x hx
theorem jqB {t : List NodeT} {b : TblT} (h : rwsX t b = 0) : shRs (rowsV t b) ∧ (∀ x ∈ rowsV t b, x.cells.length ≤ 5) ∧ (rowsV t b).length ≤ 24 := by
 obtain ⟨hT, hB, hC⟩ := jjE h
 obtain ⟨h24, ha⟩ := jnU hC
 have h5 : b.cols.length ≤ 5 := by
  unfold tblB at hB
  obtain ⟨hB, _⟩ := andE hB
  obtain ⟨hB, _⟩ := andE hB
  obtain ⟨hB, _⟩ := andE hB
  exact nqI (andE hB).2
 have hs := jp2 h5 (keepR t b) (jdE hT b) ha
 have hl := jls b (keepR t b)
 rw [jeU]
 exact ⟨⟨by omega, fun x hx => (hs x hx).1⟩, fun x hx => (hs x hx).2, by omega⟩
theorem jsg {S I : Entry} (h1 : jab Tryz.prog 32 S) (h2 : jab Tryz.prog 33 I) : jad Tryz.prog (smb S I) := ⟨jvy, jun, jvA, jtF, h1, h2, jrp, jtK, jsE, jtL, jtg, jtY, jum, trivial⟩
theorem jqN (t : List NodeT) (b : TblT) (ht : shTw t) (hb : shTbw b) : q_smA brC t b = some (cB true, []) ∨ q_smB brC t b = some (cB true, []) := by
 have iTw := juj ht
 have iTbw := jrd hb
 have aT := ja2 t
 have aTb := jan b
 have k0 : inK 1048576 = true := jei (by omega) (by omega)
 by_cases h1 : szTr t 1048576 < 0
 ·left
  have tree := jgZ t b
  revert tree; try delta zzbb5; intro tree
  revert tree; try delta zzbb4; intro tree
  revert tree; try delta zzbb3; intro tree
  revert tree; try delta zzbb2; intro tree
  revert tree; try delta zzbb1; intro tree
  revert tree; try delta zzbb0; intro tree
  simp only [isT, asT, isTw, iTw, aT, k0, dT h1, Bool.and_true, brTc, brFc] at tree
  exact tree.trans rfl
 have d1 : decide (szTr t 1048576 < 0) = false := dF h1
 obtain ⟨shT_t, hle⟩ := jsS (l := t) (k := 1048576) (by omega) (by omega)
 have k1 : inK (szTr t 1048576) = true := jei (by omega) (by omega)
 have hmk := js6 (l := t) (k := 1048576) (by omega) (by omega)
 by_cases h2 : szTb b (szTr t 1048576) < 0
 ·left
  have tree := jgZ t b
  revert tree; try delta zzbb5; intro tree
  revert tree; try delta zzbb4; intro tree
  revert tree; try delta zzbb3; intro tree
  revert tree; try delta zzbb2; intro tree
  revert tree; try delta zzbb1; intro tree
  revert tree; try delta zzbb0; intro tree
  simp only [isT, asT, isTb, asTb, isTw, isTbw, iTw, aT, k0, d1, iTbw, aTb, k1, dT h2, Bool.and_true, Bool.true_and, brTc, brFc] at tree
  exact tree.trans rfl
 have d2 : decide (szTb b (szTr t 1048576) < 0) = false := dF h2
 obtain ⟨shT_b, _⟩ := jtH (b := b) (k := szTr t 1048576) (by omega) (by omega)
 have iT := jeE shT_t
 have iTb := ja7 shT_b
 have iNs := jbp shT_t
 have aNs := jat t
 have eT : holds (t = t) = true := jak rfl
 have eB : holds (b = b) = true := jak rfl
 have m1 : mrkB 1 = true := jtM (by omega) (by omega)
 have m2 : holds (mkNdE 1 t ≤ 800000000) = true := jak (by omega)
 have hge := jhg t 1
 have m3 : decide (1 ≤ mkNdE 1 t) = true := dT hge
 have iC := jal shT_b.2.2.1
 have iI := jal shT_b.2.2.2
 have aC := jah b.cols
 have aI' := jah b.idxs
 have m4 : decide (mkNdE 1 t + (b.cols.length : Int) + (b.idxs.length : Int) < 0) = false := dF (by omega)
 have hT : holds True = true := jak trivial
 cases hc : (rwsX t b == 0) with
 | true =>
  left
  have tree := jgZ t b
  revert tree; try delta zzbb5; intro tree
  revert tree; try delta zzbb4; intro tree
  revert tree; try delta zzbb3; intro tree
  revert tree; try delta zzbb2; intro tree
  revert tree; try delta zzbb1; intro tree
  revert tree; try delta zzbb0; intro tree
  obtain ⟨hX, hX4, hXl⟩ := jqB (eq_of_beq hc)
  have eL : holds (rowsV t b = rowsV t b) = true := jak rfl
  obtain ⟨l, hl⟩ : ∃ l, rowsV t b = l := ⟨_, rfl⟩
  rw [hl] at hX hX4 hXl eL
  have hm : shRs (mkRos 1 l) := ⟨by rw [jdu]; exact hX.1, jpb l 1 hX.2⟩
  have eM : holds (mkRos 1 l = mkRos 1 (mkRos 1 l)) = true := jak (jgk _ _).symm
  have iL := jdR hX
  have aL := jbr l
  have iM := jdR hm
  have aM := jbr (mkRos 1 l)
  rw [jdu] at iM aM
  have ow := jrf l.length l 0
  have hcg := jeX l 1
  have hcl := jnT l 1 hX4
  have c1 : holds (mkRoE 1 l ≤ 800000000) = true := jak (by omega)
  have c2 : decide (mkRoE 1 l < 0) = false := dF (by omega)
  have n1 : (mkRoE 1 l != mkRoE 1 l) = false := bne_self_eq_false _
  simp only [isTw, isTbw, isT, asT, isTb, asTb, isNs, asNs, isL, asL, isRos, asRos, iTw, aT, k0, d1, iTbw, aTb, k1, d2, iT, iTb, iNs, aNs, eT, eB, m1, m2, m3, iC, iI, aC, aI', m4, hc, hl, eL, eM, iL, aL, iM, aM, ow, jdu, jld, hT, c1, c2, n1, Bool.and_true, Bool.true_and, Bool.not_true, Bool.not_false, beq_self_eq_true, brTc, brFc] at tree
  exact tree.trans rfl
 | false =>
  right
  have tree := jrv t b
  revert tree; try delta zzbc2; intro tree
  revert tree; try delta zzbc1; intro tree
  revert tree; try delta zzbc0; intro tree
  have s0 : shRs [] := ⟨Nat.zero_le _, fun _ h => by cases h⟩
  have i0 : isRos (PV.sl 0 []) = true := jdR s0
  have a0 : asRos (PV.sl 0 []) = [] := jbr []
  have e0 : holds (([] : List RowT) = mkRos 1 []) = true := jak rfl
  have n0 : (mkRoE 1 [] != 1) = false := by decide
  have c1 : holds (mkRoE 1 [] ≤ 800000000) = true := jak (by decide)
  have c2 : decide (mkRoE 1 [] < 0) = false := by decide
  have nn : (rwsX t b != rwsX t b) = false := bne_self_eq_false _
  simp only [isTw, isTbw, isT, asT, isTb, asTb, isNs, asNs, isL, asL, isRos, asRos, iTw, aT, k0, d1, iTbw, aTb, k1, d2, iT, iTb, iNs, aNs, eT, eB, m1, m2, m3, iC, iI, aC, aI', m4, hc, i0, a0, e0, n0, c1, c2, nn, jbQ, hT, Bool.and_true, Bool.true_and, Bool.not_true, Bool.not_false, beq_self_eq_true, brTc, brFc] at tree
  exact tree.trans rfl
theorem jsv {S I : Entry} (h : jad Tryz.prog (smb S I)) {t : List NodeT} {b : TblT} (hq : evB brC Tryz.prog (smb S I) jkT LO0 Tryz.f6 [cP (pT t), cP (pTb b)] = some (cB true, [])) : jay Tryz.prog 6 ([pT t, pTb b].map fun p => .cv (.pv p)) (.cv (.pv (.bool true))) [] :=
 jkJ mix (jgW (l := smb S I) h) (O := OL jkT) (LO := LO0) ⟨Tryz.func6, by kernel_rfl, by kernel_rfl⟩ (by kernel_rfl) rfl (jao (by kernel_rfl)) hq
theorem FnExactRowsOf_walk (v : Value) (t : List NodeT) (v' : Value) (b : TblT) (w : World) (hv : PRep w (jbc w) v (pT t)) (ht : shTw t) (hv' : PRep w (jbc w) v' (pTb b)) (hb : shTbw b) (hgl : Gl w (jbc w)) :
  Calls Tryz.prog 6 #[v, v'] w fun e w' => e = .returned (.bool true) ∧ Below w.heap.size w w' := by
 have hc : jay Tryz.prog 6 ([pT t, pTb b].map fun p => .cv (.pv p)) (.cv (.pv (.bool true))) [] := by
  rcases jqN t b ht hb with h | h
  ·exact jsv (jsg js1 jvu) h
  ·exact jsv (jsg jt3 juw) h
 exact hc.lawTop (w := w) (vals := [v, v']) (PReps.cons hv (PReps.cons hv' (PReps.nil _ _))) hgl
end
section
end
end
end Go.Proofs.YtbeebeamdjbkmaaGreatDoor
