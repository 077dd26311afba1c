import Derived.Test.YtbeebeamdjbkmaaGreatDoorXXk
namespace Go.Proofs.YtbeebeamdjbkmaaGreatDoor
noncomputable section
set_option linter.unusedVariables false
set_option maxRecDepth 100000
set_option linter.unusedSimpArgs false
section
def zzbi0 (t : List NodeT) (b : TblT) (s : ByteArray) := (PV.agg [PV.str (TblT.name (asTb (PV.agg [PV.str (TblT.name b), PV.str (TblT.glob b), PV.sl (List.length (TblT.cols b)) (List.map PV.str (TblT.cols b)), PV.sl (List.length (TblT.idxs b)) (List.map PV.str (TblT.idxs b))]))), PV.str (TblT.glob (asTb (PV.agg [PV.str (TblT.name b), PV.str (TblT.glob b), PV.sl (List.length (TblT.cols b)) (List.map PV.str (TblT.cols b)), PV.sl (List.length (TblT.idxs b)) (List.map PV.str (TblT.idxs b))]))), PV.sl (List.length (TblT.cols (asTb (PV.agg [PV.str (TblT.name b), PV.str (TblT.glob b), PV.sl (List.length (TblT.cols b)) (List.map PV.str (TblT.cols b)), PV.sl (List.length (TblT.idxs b)) (List.map PV.str (TblT.idxs b))])))) (List.map PV.str (TblT.cols (asTb (PV.agg [PV.str (TblT.name b), PV.str (TblT.glob b), PV.sl (List.length (TblT.cols b)) (List.map PV.str (TblT.cols b)), PV.sl (List.length (TblT.idxs b)) (List.map PV.str (TblT.idxs b))])))), PV.sl (List.length (TblT.idxs (asTb (PV.agg [PV.str (TblT.name b), PV.str (TblT.glob b), PV.sl (List.length (TblT.cols b)) (List.map PV.str (TblT.cols b)), PV.sl (List.length (TblT.idxs b)) (List.map PV.str (TblT.idxs b))])))) (List.map PV.str (TblT.idxs (asTb (PV.agg [PV.str (TblT.name b), PV.str (TblT.glob b), PV.sl (List.length (TblT.cols b)) (List.map PV.str (TblT.cols b)), PV.sl (List.length (TblT.idxs b)) (List.map PV.str (TblT.idxs b))]))))])
def zzbi1 (t : List NodeT) (b : TblT) (s : ByteArray) := (PV.agg [PV.str (TblT.name b), PV.str (TblT.glob b), PV.sl (List.length (TblT.cols b)) (List.map PV.str (TblT.cols b)), PV.sl (List.length (TblT.idxs b)) (List.map PV.str (TblT.idxs b))])
def zzbi2 (t : List NodeT) (b : TblT) (s : ByteArray) := (PV.agg [PV.sl (List.length (asT (PV.agg [PV.sl (List.length t) (encN t)]))) (encN (asT (PV.agg [PV.sl (List.length t) (encN t)])))])
theorem jrP (t : List NodeT) (b : TblT) (s : ByteArray) : q_shB brC t b s =
 brC (decide ((↑(ByteArray.size s) : Int) > 1048576))
 (some ((.cv (.pv (.bool true)), [])))
 (brC (isTw (PV.agg [PV.sl (List.length t) (encN t)]) && inK 1048576)
 (brC (decide (szTr (asT (PV.agg [PV.sl (List.length t) (encN t)])) 1048576 < 0))
 (some ((.cv (.pv (.bool true)), [])))
 (brC (isTbw (zzbi1 t b s) && inK (szTr (asT (PV.agg [PV.sl (List.length t) (encN t)])) 1048576))
 (brC (decide (szTb (asTb (zzbi1 t b s)) (szTr (asT (PV.agg [PV.sl (List.length t) (encN t)])) 1048576) < 0))
 (some ((.cv (.pv (.bool true)), [])))
 (brC (isT (PV.agg [PV.sl (List.length t) (encN t)]))
 (brC (isTb (zzbi1 t b s))
 (brC (isT (zzbi2 t b s) && isTb (zzbi0 t b s) && !Prod.fst (rowX (asT (zzbi2 t b s)) (asTb (zzbi0 t b s)) s) == 0)
 (brC (isT (PV.agg [PV.sl (List.length t) (encN t)]))
 (brC (isTb (zzbi1 t b s))
 (brC (isT (zzbi2 t b s) && isTb (zzbi0 t b s) && !Prod.fst (rowX (asT (zzbi2 t b s)) (asTb (zzbi0 t b s)) s) == 0)
 (brC (isCs (PV.sl 0 []) && isCs (PV.sl 0 []))
 (brC (!holds (asCs (PV.sl 0 []) = asCs (PV.sl 0 [])))
 (some ((.cv (.pv (.bool false)), [])))
 (brC (Prod.fst (rowX (asT (zzbi2 t b s)) (asTb (zzbi0 t b s)) s) != Prod.fst (rowX (asT (zzbi2 t b s)) (asTb (zzbi0 t b s)) s))
 (some ((.cv (.pv (.bool false)), [])))
 (brC (isT (PV.agg [PV.sl (List.length t) (encN t)]))
 (brC (isT (zzbi2 t b s) && isT (zzbi2 t b s))
 (brC (!holds (asT (zzbi2 t b s) = asT (zzbi2 t b s)))
 (some ((.cv (.pv (.bool false)), [])))
 (brC (isTb (zzbi1 t b s))
 (brC (isTb (zzbi0 t b s) && isTb (zzbi0 t b s))
 (brC (!holds (asTb (zzbi0 t b s) = asTb (zzbi0 t b s)))
 (some ((.cv (.pv (.bool false)), [])))
 (brC (Nat.beq (70 + 2000000) 2000070 && isNs (PV.sl (List.length (asT (PV.agg [PV.sl (List.length t) (encN t)]))) (encN (asT (PV.agg [PV.sl (List.length t) (encN t)])))) && mrkB 1 && holds (mkNdE 1 (asNs (PV.sl (List.length (asT (PV.agg [PV.sl (List.length t) (encN t)]))) (encN (asT (PV.agg [PV.sl (List.length t) (encN t)]))))) ≤ 800000000))
 (brC (isL (PV.sl (List.length (TblT.cols (asTb (zzbi1 t b s)))) (List.map PV.str (TblT.cols (asTb (zzbi1 t b s))))) && isL (PV.sl (List.length (TblT.idxs (asTb (zzbi1 t b s)))) (List.map PV.str (TblT.idxs (asTb (zzbi1 t b s))))) && Nat.beq 9 9 && Nat.beq 9 9 && decide (1 ≤ mkNdE 1 (asNs (PV.sl (List.length (asT (PV.agg [PV.sl (List.length t) (encN t)]))) (encN (asT (PV.agg [PV.sl (List.length t) (encN t)])))))) && holds (mkNdE 1 (asNs (PV.sl (List.length (asT (PV.agg [PV.sl (List.length t) (encN t)]))) (encN (asT (PV.agg [PV.sl (List.length t) (encN t)]))))) ≤ 800000000))
 (brC (decide (mkNdE 1 (asNs (PV.sl (List.length (asT (PV.agg [PV.sl (List.length t) (encN t)]))) (encN (asT (PV.agg [PV.sl (List.length t) (encN t)]))))) + (↑(List.length (TblT.cols (asTb (zzbi1 t b s)))) : Int) + (↑(List.length (TblT.idxs (asTb (zzbi1 t b s)))) : Int) < 0))
 (some ((.cv (.pv (.bool false)), [])))
 (brC (isCs (PV.sl 0 []) && isCs (PV.sl 0 []))
 (brC (!holds (asCs (PV.sl 0 []) = asCs (PV.sl 0 [])))
 (some ((.cv (.pv (.bool false)), [])))
 (brC (Prod.fst (rowX (asT (zzbi2 t b s)) (asTb (zzbi0 t b s)) s) != Prod.fst (rowX (asT (zzbi2 t b s)) (asTb (zzbi0 t b s)) s))
 (some ((.cv (.pv (.bool false)), [])))
 (brC (Nat.beq 0 0 && nilB [])
 (brC (isCs (PV.sl 0 []) && mrkB 1 && holds (mkChE 1 (asCs (PV.sl 0 [])) ≤ 800000000) && holds (asCs (PV.sl 0 []) = mkChs 1 (asCs (PV.sl 0 []))))
 (brC (decide (mkChE 1 (asCs (PV.sl 0 [])) < 0))
 (some ((.cv (.pv (.bool false)), [])))
 (brC (mkChE 1 (asCs (PV.sl 0 [])) != 1)
 (some ((.cv (.pv (.bool false)), [])))
 (brC (isT (PV.agg [PV.sl (List.length t) (encN t)]))
 (brC (isTb (zzbi1 t b s))
 (brC (isT (zzbi2 t b s) && isTb (zzbi0 t b s) && !Prod.fst (rowX (asT (zzbi2 t b s)) (asTb (zzbi0 t b s)) s) == 0)
 (brC (isCs (PV.sl 0 []) && isCs (PV.sl 0 []))
 (brC (!holds (asCs (PV.sl 0 []) = asCs (PV.sl 0 [])))
 (some ((.cv (.pv (.bool false)), [])))
 (brC (Prod.fst (rowX (asT (zzbi2 t b s)) (asTb (zzbi0 t b s)) s) != Prod.fst (rowX (asT (zzbi2 t b s)) (asTb (zzbi0 t b s)) s))
 (some ((.cv (.pv (.bool false)), [])))
 (brC (isCs (PV.sl 0 []) && mrkB 1 && holds (mkChE 1 (asCs (PV.sl 0 [])) ≤ 800000000) && holds (asCs (PV.sl 0 []) = mkChs 1 (asCs (PV.sl 0 []))))
 (brC (decide (mkChE 1 (asCs (PV.sl 0 [])) < 0))
 (some ((.cv (.pv (.bool false)), [])))
 (brC (mkChE 1 (asCs (PV.sl 0 [])) != 1)
 (some ((.cv (.pv (.bool false)), [])))
 (some ((.cv (.pv (.bool true)), [])))))
 none)))
 none)
 none)
 none)
 none)))
 none)
 none)))
 none))
 none)
 none))
 none)
 none))
 none)
 none)))
 none)
 none)
 none)
 none)
 none)
 none)
 none))
 none))
 none) := by kernel_rfl
def zzbj0 (t : List NodeT) (b : TblT) (s : ByteArray) := (PV.agg [PV.str (TblT.name (asTb (PV.agg [PV.str (TblT.name b), PV.str (TblT.glob b), PV.sl (List.length (TblT.cols b)) (List.map PV.str (TblT.cols b)), PV.sl (List.length (TblT.idxs b)) (List.map PV.str (TblT.idxs b))]))), PV.str (TblT.glob (asTb (PV.agg [PV.str (TblT.name b), PV.str (TblT.glob b), PV.sl (List.length (TblT.cols b)) (List.map PV.str (TblT.cols b)), PV.sl (List.length (TblT.idxs b)) (List.map PV.str (TblT.idxs b))]))), PV.sl (List.length (TblT.cols (asTb (PV.agg [PV.str (TblT.name b), PV.str (TblT.glob b), PV.sl (List.length (TblT.cols b)) (List.map PV.str (TblT.cols b)), PV.sl (List.length (TblT.idxs b)) (List.map PV.str (TblT.idxs b))])))) (List.map PV.str (TblT.cols (asTb (PV.agg [PV.str (TblT.name b), PV.str (TblT.glob b), PV.sl (List.length (TblT.cols b)) (List.map PV.str (TblT.cols b)), PV.sl (List.length (TblT.idxs b)) (List.map PV.str (TblT.idxs b))])))), PV.sl (List.length (TblT.idxs (asTb (PV.agg [PV.str (TblT.name b), PV.str (TblT.glob b), PV.sl (List.length (TblT.cols b)) (List.map PV.str (TblT.cols b)), PV.sl (List.length (TblT.idxs b)) (List.map PV.str (TblT.idxs b))])))) (List.map PV.str (TblT.idxs (asTb (PV.agg [PV.str (TblT.name b), PV.str (TblT.glob b), PV.sl (List.length (TblT.cols b)) (List.map PV.str (TblT.cols b)), PV.sl (List.length (TblT.idxs b)) (List.map PV.str (TblT.idxs b))]))))])
def zzbj1 (t : List NodeT) (b : TblT) (s : ByteArray) := (delX (asT (PV.agg [PV.sl (List.length (asT (PV.agg [PV.sl (List.length t) (encN t)]))) (encN (asT (PV.agg [PV.sl (List.length t) (encN t)])))])) (asTb (zzbj0 t b s)) s)
def zzbj2 (t : List NodeT) (b : TblT) (s : ByteArray) := (PV.agg [PV.str (TblT.name b), PV.str (TblT.glob b), PV.sl (List.length (TblT.cols b)) (List.map PV.str (TblT.cols b)), PV.sl (List.length (TblT.idxs b)) (List.map PV.str (TblT.idxs b))])
def zzbj3 (t : List NodeT) (b : TblT) (s : ByteArray) := (PV.sl (List.length (zzbj1 t b s)) (encC (mkChs 1 (asCs (PV.sl (List.length (zzbj1 t b s)) (encC (zzbj1 t b s)))))))
def zzbj4 (t : List NodeT) (b : TblT) (s : ByteArray) := (PV.agg [PV.sl (List.length (asT (PV.agg [PV.sl (List.length t) (encN t)]))) (encN (asT (PV.agg [PV.sl (List.length t) (encN t)])))])
def zzbj5 (t : List NodeT) (b : TblT) (s : ByteArray) := (PV.sl (List.length (zzbj1 t b s)) (encC (zzbj1 t b s)))
theorem jeS (t : List NodeT) (b : TblT) (s : ByteArray) : q_shA brC t b s =
 brC (decide ((↑(ByteArray.size s) : Int) > 1048576))
 (some ((.cv (.pv (.bool true)), [])))
 (brC (isTw (PV.agg [PV.sl (List.length t) (encN t)]) && inK 1048576)
 (brC (decide (szTr (asT (PV.agg [PV.sl (List.length t) (encN t)])) 1048576 < 0))
 (some ((.cv (.pv (.bool true)), [])))
 (brC (isTbw (zzbj2 t b s) && inK (szTr (asT (PV.agg [PV.sl (List.length t) (encN t)])) 1048576))
 (brC (decide (szTb (asTb (zzbj2 t b s)) (szTr (asT (PV.agg [PV.sl (List.length t) (encN t)])) 1048576) < 0))
 (some ((.cv (.pv (.bool true)), [])))
 (brC (isT (PV.agg [PV.sl (List.length t) (encN t)]))
 (brC (isTb (zzbj2 t b s))
 (brC (isT (zzbj4 t b s) && isTb (zzbj0 t b s) && Prod.fst (rowX (asT (zzbj4 t b s)) (asTb (zzbj0 t b s)) s) == 0)
 (brC (isT (PV.agg [PV.sl (List.length t) (encN t)]))
 (brC (isTb (zzbj2 t b s))
 (brC (isT (zzbj4 t b s) && isTb (zzbj0 t b s) && Prod.fst (rowX (asT (zzbj4 t b s)) (asTb (zzbj0 t b s)) s) == 0)
 (brC (IV.ownB (@Prod.fst IV (List (List CV)) (.tup [.cv (.dls 4 75 (List.length (zzbj1 t b s)) (encC (zzbj1 t b s))), cI 0], [])) && jcJ [])
 (brC (isCs (zzbj5 t b s) && isCs (zzbj5 t b s))
 (brC (!holds (asCs (zzbj5 t b s) = asCs (zzbj5 t b s)))
 (some ((.cv (.pv (.bool false)), [])))
 (brC (isT (PV.agg [PV.sl (List.length t) (encN t)]))
 (brC (isT (zzbj4 t b s) && isT (zzbj4 t b s))
 (brC (!holds (asT (zzbj4 t b s) = asT (zzbj4 t b s)))
 (some ((.cv (.pv (.bool false)), [])))
 (brC (isTb (zzbj2 t b s))
 (brC (isTb (zzbj0 t b s) && isTb (zzbj0 t b s))
 (brC (!holds (asTb (zzbj0 t b s) = asTb (zzbj0 t b s)))
 (some ((.cv (.pv (.bool false)), [])))
 (brC (Nat.beq (70 + 2000000) 2000070 && isNs (PV.sl (List.length (asT (PV.agg [PV.sl (List.length t) (encN t)]))) (encN (asT (PV.agg [PV.sl (List.length t) (encN t)])))) && mrkB 1 && holds (mkNdE 1 (asNs (PV.sl (List.length (asT (PV.agg [PV.sl (List.length t) (encN t)]))) (encN (asT (PV.agg [PV.sl (List.length t) (encN t)]))))) ≤ 800000000))
 (brC (isL (PV.sl (List.length (TblT.cols (asTb (zzbj2 t b s)))) (List.map PV.str (TblT.cols (asTb (zzbj2 t b s))))) && isL (PV.sl (List.length (TblT.idxs (asTb (zzbj2 t b s)))) (List.map PV.str (TblT.idxs (asTb (zzbj2 t b s))))) && Nat.beq 9 9 && Nat.beq 9 9 && decide (1 ≤ mkNdE 1 (asNs (PV.sl (List.length (asT (PV.agg [PV.sl (List.length t) (encN t)]))) (encN (asT (PV.agg [PV.sl (List.length t) (encN t)])))))) && holds (mkNdE 1 (asNs (PV.sl (List.length (asT (PV.agg [PV.sl (List.length t) (encN t)]))) (encN (asT (PV.agg [PV.sl (List.length t) (encN t)]))))) ≤ 800000000))
 (brC (decide (mkNdE 1 (asNs (PV.sl (List.length (asT (PV.agg [PV.sl (List.length t) (encN t)]))) (encN (asT (PV.agg [PV.sl (List.length t) (encN t)]))))) + (↑(List.length (TblT.cols (asTb (zzbj2 t b s)))) : Int) + (↑(List.length (TblT.idxs (asTb (zzbj2 t b s)))) : Int) < 0))
 (some ((.cv (.pv (.bool false)), [])))
 (brC (isCs (zzbj5 t b s) && isCs (zzbj5 t b s))
 (brC (!holds (asCs (zzbj5 t b s) = asCs (zzbj5 t b s)))
 (some ((.cv (.pv (.bool false)), [])))
 (brC (Nat.beq (75 + 2000000) 2000075 && isCs (zzbj5 t b s) && mrkB 1 && holds (mkChE 1 (asCs (zzbj5 t b s)) ≤ 800000000))
 (brC (isCs (zzbj3 t b s) && mrkB 1 && holds (mkChE 1 (asCs (zzbj3 t b s)) ≤ 800000000) && holds (asCs (zzbj3 t b s) = mkChs 1 (asCs (zzbj3 t b s))))
 (brC (decide (mkChE 1 (asCs (zzbj3 t b s)) < 0))
 (some ((.cv (.pv (.bool false)), [])))
 (brC (mkChE 1 (asCs (zzbj3 t b s)) != mkChE 1 (asCs (zzbj5 t b s)))
 (some ((.cv (.pv (.bool false)), [])))
 (brC (isT (PV.agg [PV.sl (List.length t) (encN t)]))
 (brC (isTb (zzbj2 t b s))
 (brC (isT (zzbj4 t b s) && isTb (zzbj0 t b s) && Prod.fst (rowX (asT (zzbj4 t b s)) (asTb (zzbj0 t b s)) s) == 0)
 (brC (isCs (zzbj5 t b s) && isCs (zzbj5 t b s))
 (brC (!holds (asCs (zzbj5 t b s) = asCs (zzbj5 t b s)))
 (some ((.cv (.pv (.bool false)), [])))
 (brC (isCs (zzbj3 t b s) && mrkB 1 && holds (mkChE 1 (asCs (zzbj3 t b s)) ≤ 800000000) && holds (asCs (zzbj3 t b s) = mkChs 1 (asCs (zzbj3 t b s))))
 (brC (decide (mkChE 1 (asCs (zzbj3 t b s)) < 0))
 (some ((.cv (.pv (.bool false)), [])))
 (brC (mkChE 1 (asCs (zzbj3 t b s)) != mkChE 1 (asCs (zzbj5 t b s)))
 (some ((.cv (.pv (.bool false)), [])))
 (some ((.cv (.pv (.bool true)), [])))))
 none))
 none)
 none)
 none)
 none)))
 none)
 none))
 none))
 none)
 none))
 none)
 none))
 none)
 none))
 none)
 none)
 none)
 none)
 none)
 none)
 none)
 none))
 none))
 none) := by kernel_rfl
end
section
open Go.RowKit
theorem jti {t : List NodeT} (h : shTw t) : isE pT shTw (.agg [.sl t.length (encN t)]) = true := jbs (enc := pT) h
theorem jq7 {b : TblT} (h : shTbw b) : isE pTb shTbw (PV.agg [PV.str b.name, PV.str b.glob, PV.sl b.cols.length (b.cols.map PV.str), PV.sl b.idxs.length (b.idxs.map PV.str)]) = true := jbs (enc := pTb) h
theorem ju0 {l : List ByteArray} (h : shL l) (k : Int) : shL (mkL k l) := ⟨by rw [jck]; exact h.1, fun x hx => by have := js5 l k x hx; omega⟩
theorem flatS (g : PV → Nat × TypeId → Bool) : ∀ (l : List ByteArray) (o : Nat), flatL g 1 9 o (l.map PV.str) = true
 | [], _ => rfl
 | x :: t, o => by
  have h0 : kidA 9 0 = none := by kernel_rfl
  show ((match kidA 9 (o % 1) with | none => PV.flatB (.str x) | some y => g (.str x) y) && flatL g 1 9 (o + 1) (t.map PV.str)) = true
  rw [Nat.mod_one, h0, flatS g t (o + 1)]
  rfl
theorem flatC (g : PV → Nat × TypeId → Bool) (hg : ∀ (n : Nat) (l : List ByteArray), g (.sl n (l.map PV.str)) (1, 9) = true) : ∀ (l : List ChT) (i : Nat), flatL g 4 75 (i * 4) (encC l) = true
 | [], _ => rfl
 | x :: t, i => by
  have h0 : kidA 75 0 = none := by kernel_rfl
  have h1 : kidA 75 1 = none := by kernel_rfl
  have h2 : kidA 75 2 = some (1, 9) := by kernel_rfl
  have h3 : kidA 75 3 = none := by kernel_rfl
  have ih := flatC g hg t (i + 1)
  show ((match kidA 75 (i * 4 % 4) with | none => PV.flatB (.int .i64 x.kind) | some y => g (.int .i64 x.kind) y) && ((match kidA 75 ((i * 4 + 1) % 4) with | none => PV.flatB (.str x.name) | some y => g (.str x.name) y) &&
   ((match kidA 75 ((i * 4 + 2) % 4) with | none => PV.flatB (pL x.subs) | some y => g (pL x.subs) y) && ((match kidA 75 ((i * 4 + 3) % 4) with | none => PV.flatB (.str x.value) | some y => g (.str x.value) y) && flatL g 4 75 (i * 4 + 4) (encC t))))) = true
  rw [show i * 4 % 4 = 0 by omega, show (i * 4 + 1) % 4 = 1 by omega, show (i * 4 + 2) % 4 = 2 by omega, show (i * 4 + 3) % 4 = 3 by omega, h0, h1, h2, h3, show i * 4 + 4 = (i + 1) * 4 by omega, ih]
  have := hg x.subs.length x.subs
  have e : g (pL x.subs) (1, 9) = true := this
  simp only [e, PV.flatB, Bool.and_true]
theorem jvs (l : List ChT) : flatK 4 4 75 (encC l) = true := flatC _ (fun n l => flatS _ l 0) l 0
theorem jt1 (n : Nat) (l : List ChT) (c : Int) : IV.ownB (IV.tup [IV.cv (.dls 4 75 n (encC l)), cI c]) = true := by
 show (flatK 4 4 75 (encC l) && (true && true)) = true
 rw [jvs]
 rfl
theorem js0 {kind : Int} {b : TblT} {l : List ByteArray} (hb : shTb b) (hl : shL l) : ∀ cs : List ByteArray, (∀ c ∈ cs, c.size ≤ 1048576) → ∀ x ∈ chIs kind b l cs, shC x ∧ x.subs.length ≤ 4
 | [], _, x, hx => by cases hx
 | c :: cs, hc, x, hx => by
  rcases nqD.1 (show x ∈ chI kind b l c ++ chIs kind b l cs from hx) with hx | hx
  ·unfold chI at hx
   cases he : ((cellX b l c).toList == []) with
   | true => rw [he] at hx; cases hx
   | false =>
    rw [he] at hx
    obtain rfl := List.mem_singleton.1 hx
    have hm : ∀ n, (l.getD n ⟨#[]⟩).size ≤ 1048576 := fun n => by
     by_cases hn : n < l.length
     ·rw [List.getD_eq_getElem?_getD, List.getElem?_eq_getElem hn]
      exact hl.2 _ (List.getElem_mem hn)
     ·rw [List.getD_eq_getElem?_getD, List.getElem?_eq_none (by omega)]
      exact Nat.zero_le _
    have hh : (l.headD ⟨#[]⟩).size ≤ 1048576 := by
     cases l with
     | nil => exact Nat.zero_le _
     | cons y r => exact hl.2 _ (List.mem_cons_self ..)
    refine ⟨⟨hb.2.1, ⟨(by show 4 ≤ 1048576; omega), fun y hy => ?_⟩, Nat.zero_le _⟩, Nat.le_refl _⟩
    rcases List.mem_cons.1 hy with rfl | hy
    ·show 1 ≤ 1048576; omega
    rcases List.mem_cons.1 hy with rfl | hy
    ·exact hc _ (List.mem_cons_self ..)
    rcases List.mem_cons.1 hy with rfl | hy
    ·exact hm _
    ·obtain rfl := List.mem_singleton.1 hy
     exact hh
  ·exact js0 hb hl cs (fun d hd => hc d (List.mem_cons_of_mem _ hd)) x hx
theorem jpP : ∀ (l : List ChT) (k : Int), (∀ x ∈ l, x.subs.length ≤ 4) → mkChE k l ≤ k + 7 * l.length
 | [], k, _ => by show k ≤ _; simp
 | x :: t, k, h => by
  have h1 := h x (List.mem_cons_self ..)
  have ih := jpP t (k + 3 + (x.subs.length : Int)) fun y hy => h y (List.mem_cons_of_mem _ hy)
  show mkChE (k + 3 + (x.subs.length : Int)) t ≤ _
  rw [nqH]
  omega
theorem joe : ∀ (l : List ChT) (k : Int), (∀ x ∈ l, shC x) → ∀ x ∈ mkChs k l, shC x
 | [], _, _, x, hx => by cases hx
 | y :: t, k, h, x, hx => by
  rcases List.mem_cons.1 hx with rfl | hx
  ·have hy := h y (List.mem_cons_self ..)
   have a := jh0 (k + 1)
   have b := jh0 (k + 2 + y.subs.length)
   refine ⟨?_, ju0 hy.2.1 _, ?_⟩
   ·show (mkV (k + 1)).size ≤ 1048576
    omega
   ·show (mkV (k + 2 + y.subs.length)).size ≤ 1048576
    omega
  ·exact joe t _ (fun z hz => h z (List.mem_cons_of_mem _ hz)) x hx
theorem jsY {S I : Entry} (h1 : jab Tryz.prog 39 S) (h2 : jab Tryz.prog 40 I) : jad Tryz.prog (shb S I) := ⟨ju5, juz, jvK, juV, h1, h2, jst, jtI, juI, juG, juP, juA, juq, trivial⟩
theorem jt8 {t : List NodeT} {b : TblT} {k : ByteArray} (hb : shTb b) (h : (rowX t b k).1 = 0) : shCs (delX t b k) ∧ (∀ x ∈ delX t b k, x.subs.length ≤ 4) ∧ (delX t b k).length ≤ 1048576 := by
 obtain ⟨_, hB, _, hlen, hhd, hpos⟩ := jj3 h
 have hX := jj0 t b k
 have hk : k.size ≤ 1048576 := by
  rw [← hhd]
  match hq : (rowX t b k).2, hpos with
  | x :: r, _ => exact hX.2 x (by rw [hq]; exact List.mem_cons_self ..)
 have hS : shC (⟨2, b.glob, [⟨#[114]⟩, k], ⟨#[]⟩⟩ : ChT) := ⟨hb.2.1, ⟨(by show 2 ≤ 1048576; omega), fun y hy => by
  rcases List.mem_cons.1 hy with rfl | hy
  ·show 1 ≤ 1048576; omega
  ·obtain rfl := List.mem_singleton.1 hy
   exact hk⟩, Nat.zero_le _⟩
 have hc := js0 (kind := 2) hb hX b.idxs hb.2.2.2.2
 have hn := jhg 2 b (rowX t b k).2 b.idxs
 have hi : b.idxs.length < 5 := by
  unfold tblB at hB
  obtain ⟨hB, hi⟩ := andE hB
  obtain ⟨hB, _⟩ := andE hB
  obtain ⟨hB, _⟩ := andE hB
  obtain ⟨hB, h5⟩ := andE hB
  obtain ⟨_, h1⟩ := andE hB
  have h5 := nqI h5
  have h1 := nqI h1
  have := jhG b.cols b.idxs 0 hi (by omega)
  omega
 rw [jkr]
 refine ⟨⟨?_, fun x hx => ?_⟩, fun x hx => ?_, ?_⟩
 ·rw [nqH]; omega
 ·rcases List.mem_cons.1 hx with rfl | hx
  ·exact hS
  ·exact (hc x hx).1
 ·rcases List.mem_cons.1 hx with rfl | hx
  ·show 2 ≤ 4; omega
  ·exact (hc x hx).2
 ·rw [nqH]; omega
theorem jud (t : List NodeT) (b : TblT) (s : ByteArray) (ht : shTw t) (hb : shTbw b) : q_shA brC t b s = some (cB true, []) ∨ q_shB brC t b s = some (cB true, []) := by
 have iTw := jti ht
 have iTbw := jq7 hb
 have aT := ja2 t
 have aTb := jal b
 have k0 : inK 1048576 = true := jeH (by omega) (by omega)
 by_cases hs : (s.size : Int) > 1048576
 ·left
  have tree := jeS t b s
  revert tree; try delta zzbj5; intro tree
  revert tree; try delta zzbj4; intro tree
  revert tree; try delta zzbj3; intro tree
  revert tree; try delta zzbj2; intro tree
  revert tree; try delta zzbj1; intro tree
  revert tree; try delta zzbj0; intro tree
  rw [dT hs] at tree
  exact tree.trans rfl
 have d0 : decide ((s.size : Int) > 1048576) = false := dF hs
 by_cases h1 : szTr t 1048576 < 0
 ·left
  have tree := jeS t b s
  revert tree; try delta zzbj5; intro tree
  revert tree; try delta zzbj4; intro tree
  revert tree; try delta zzbj3; intro tree
  revert tree; try delta zzbj2; intro tree
  revert tree; try delta zzbj1; intro tree
  revert tree; try delta zzbj0; intro tree
  simp only [d0, isT, asT, isTw, iTw, aT, k0, dT h1, Bool.and_true, brTc, brFc] at tree
  exact tree.trans rfl
 have d1 : decide (szTr t 1048576 < 0) = false := dF h1
 obtain ⟨shT_t, hle⟩ := juh (l := t) (k := 1048576) (by omega) (by omega)
 have k1 : inK (szTr t 1048576) = true := jeH (by omega) (by omega)
 have hmk := jtv (l := t) (k := 1048576) (by omega) (by omega)
 by_cases h2 : szTb b (szTr t 1048576) < 0
 ·left
  have tree := jeS t b s
  revert tree; try delta zzbj5; intro tree
  revert tree; try delta zzbj4; intro tree
  revert tree; try delta zzbj3; intro tree
  revert tree; try delta zzbj2; intro tree
  revert tree; try delta zzbj1; intro tree
  revert tree; try delta zzbj0; intro tree
  simp only [d0, isT, asT, isTb, asTb, isTw, isTbw, iTw, aT, k0, d1, iTbw, aTb, k1, dT h2, Bool.and_true, Bool.true_and, brTc, brFc] at tree
  exact tree.trans rfl
 have d2 : decide (szTb b (szTr t 1048576) < 0) = false := dF h2
 obtain ⟨shT_b, _⟩ := jt7 (b := b) (k := szTr t 1048576) (by omega) (by omega)
 have iT := jem shT_t
 have iTb := jaX shT_b
 have iNs := jbv shT_t
 have aNs := jau t
 have eT : holds (t = t) = true := jak rfl
 have eB : holds (b = b) = true := jak rfl
 have m1 : mrkB 1 = true := juf (by omega) (by omega)
 have m2 : holds (mkNdE 1 t ≤ 800000000) = true := jak (by omega)
 have hge := jhJ t 1
 have m3 : decide (1 ≤ mkNdE 1 t) = true := dT hge
 have iC := jaj shT_b.2.2.1
 have iI := jaj shT_b.2.2.2
 have aC := jag b.cols
 have aI' := jag b.idxs
 have m4 : decide (mkNdE 1 t + (b.cols.length : Int) + (b.idxs.length : Int) < 0) = false := dF (by omega)
 have hT : holds True = true := jak trivial
 cases hc : ((rowX t b s).1 == 0) with
 | true =>
  left
  have tree := jeS t b s
  revert tree; try delta zzbj5; intro tree
  revert tree; try delta zzbj4; intro tree
  revert tree; try delta zzbj3; intro tree
  revert tree; try delta zzbj2; intro tree
  revert tree; try delta zzbj1; intro tree
  revert tree; try delta zzbj0; intro tree
  obtain ⟨hX, hX4, hXl⟩ := jt8 shT_b (eq_of_beq hc)
  have eL : holds (delX t b s = delX t b s) = true := jak rfl
  obtain ⟨l, hl⟩ : ∃ l, delX t b s = l := ⟨_, rfl⟩
  rw [hl] at hX hX4 hXl eL
  have hm : shCs (mkChs 1 l) := ⟨by rw [jdU]; exact hX.1, joe l 1 hX.2⟩
  have eM : holds (mkChs 1 l = mkChs 1 (mkChs 1 l)) = true := jak (jgL _ _).symm
  have iL := jeb hX
  have aL := jbx l
  have iM := jeb hm
  have aM := jbx (mkChs 1 l)
  rw [jdU] at iM aM
  have ow := jt1 l.length l 0
  have hcg := je1 l 1
  have hcl := jpP l 1 hX4
  have c1 : holds (mkChE 1 l ≤ 800000000) = true := jak (by omega)
  have c2 : decide (mkChE 1 l < 0) = false := dF (by omega)
  have n1 : (mkChE 1 l != mkChE 1 l) = false := bne_self_eq_false _
  simp only [d0, isTw, isTbw, isT, asT, isTb, asTb, isNs, asNs, isL, asL, isCs, asCs, iTw, aT, k0, d1, iTbw, aTb, k1, d2, iT, iTb, iNs, aNs, eT, eB, m1, m2, m3, iC, iI, aC, aI', m4, hc, hl, eL, eM, iL, aL, iM, aM, ow, jdU, jlX, hT, c1, c2, n1, Bool.and_true, Bool.true_and, Bool.not_true, Bool.not_false, beq_self_eq_true, brTc, brFc] at tree
  exact tree.trans rfl
 | false =>
  right
  have tree := jrP t b s
  revert tree; try delta zzbi2; intro tree
  revert tree; try delta zzbi1; intro tree
  revert tree; try delta zzbi0; intro tree
  have s0 : shCs [] := ⟨Nat.zero_le _, fun _ h => by cases h⟩
  have i0 : isCs (PV.sl 0 []) = true := jeb s0
  have a0 : asCs (PV.sl 0 []) = [] := jbx []
  have e0 : holds (([] : List ChT) = mkChs 1 []) = true := jak rfl
  have n0 : (mkChE 1 [] != 1) = false := by decide
  have c1 : holds (mkChE 1 [] ≤ 800000000) = true := jak (by decide)
  have c2 : decide (mkChE 1 [] < 0) = false := by decide
  have nn : ((rowX t b s).1 != (rowX t b s).1) = false := bne_self_eq_false _
  simp only [d0, isTw, isTbw, isT, asT, isTb, asTb, isNs, asNs, isL, asL, isCs, asCs, iTw, aT, k0, d1, iTbw, aTb, k1, d2, iT, iTb, iNs, aNs, eT, eB, m1, m2, m3, iC, iI, aC, aI', m4, hc, i0, a0, e0, n0, c1, c2, nn, jca, hT, Bool.and_true, Bool.true_and, Bool.not_true, Bool.not_false, beq_self_eq_true, brTc, brFc] at tree
  exact tree.trans rfl
theorem jsZ {S I : Entry} (h : jad Tryz.prog (shb S I)) {t : List NodeT} {b : TblT} {s : ByteArray} (hq : evB brC Tryz.prog (shb S I) jlM LO0 Tryz.f8 [cP (pT t), cP (pTb b), cS s] = some (cB true, [])) : jav Tryz.prog 8 ([pT t, pTb b, .str s].map fun p => .cv (.pv p)) (.cv (.pv (.bool true))) [] :=
 jjV mix (jhY (l := shb S I) h) (O := OL jlM) (LO := LO0) ⟨Tryz.func8, by kernel_rfl, by kernel_rfl⟩ (by kernel_rfl) rfl (jap (by kernel_rfl)) hq
theorem FnExactDeleteRow_walk (v : Value) (t : List NodeT) (v' : Value) (b : TblT) (v'' : Value) (s : ByteArray) (w : World) (hv : PRep w (ja8 w) v (pT t)) (ht : shTw t) (hv' : PRep w (ja8 w) v' (pTb b)) (hb : shTbw b) (hv'' : PRep w (ja8 w) v'' (.str s)) (_ : s.size ≤ 2 ^ 63 - 1) (hgl : Gl w (ja8 w)) :
  Calls Tryz.prog 8 #[v, v', v''] w fun e w' => e = .returned (.bool true) ∧ Below w.heap.size w w' := by
 have hc : jav Tryz.prog 8 ([pT t, pTb b, .str s].map fun p => .cv (.pv p)) (.cv (.pv (.bool true))) [] := by
  rcases jud t b s ht hb with h | h
  ·exact jsZ (jsY jsa jub) h
  ·exact jsZ (jsY jsr jt3) h
 exact hc.lawTop (w := w) (vals := [v, v', v'']) (PReps.cons hv (PReps.cons hv' (PReps.cons hv'' (PReps.nil _ _)))) hgl
end
section
end
end
end Go.Proofs.YtbeebeamdjbkmaaGreatDoor
