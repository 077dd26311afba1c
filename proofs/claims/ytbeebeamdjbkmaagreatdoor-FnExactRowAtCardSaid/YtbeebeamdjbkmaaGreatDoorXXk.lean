import Derived.Test.YtbeebeamdjbkmaaGreatDoorXXj
namespace Go.Proofs.YtbeebeamdjbkmaaGreatDoor
noncomputable section
set_option linter.unusedVariables false
set_option maxRecDepth 100000
set_option linter.unusedSimpArgs false
section
def zzay0 (t : List NodeT) (b : TblT) (s : ByteArray) := (PV.agg [PV.str (TblT.name (asTb (PV.agg [PV.str (TblT.name b), PV.str (TblT.glob b), PV.sl (List.length (TblT.cols b)) (List.map PV.str (TblT.cols b)), PV.sl (List.length (TblT.idxs b)) (List.map PV.str (TblT.idxs b))]))), PV.str (TblT.glob (asTb (PV.agg [PV.str (TblT.name b), PV.str (TblT.glob b), PV.sl (List.length (TblT.cols b)) (List.map PV.str (TblT.cols b)), PV.sl (List.length (TblT.idxs b)) (List.map PV.str (TblT.idxs b))]))), PV.sl (List.length (TblT.cols (asTb (PV.agg [PV.str (TblT.name b), PV.str (TblT.glob b), PV.sl (List.length (TblT.cols b)) (List.map PV.str (TblT.cols b)), PV.sl (List.length (TblT.idxs b)) (List.map PV.str (TblT.idxs b))])))) (List.map PV.str (TblT.cols (asTb (PV.agg [PV.str (TblT.name b), PV.str (TblT.glob b), PV.sl (List.length (TblT.cols b)) (List.map PV.str (TblT.cols b)), PV.sl (List.length (TblT.idxs b)) (List.map PV.str (TblT.idxs b))])))), PV.sl (List.length (TblT.idxs (asTb (PV.agg [PV.str (TblT.name b), PV.str (TblT.glob b), PV.sl (List.length (TblT.cols b)) (List.map PV.str (TblT.cols b)), PV.sl (List.length (TblT.idxs b)) (List.map PV.str (TblT.idxs b))])))) (List.map PV.str (TblT.idxs (asTb (PV.agg [PV.str (TblT.name b), PV.str (TblT.glob b), PV.sl (List.length (TblT.cols b)) (List.map PV.str (TblT.cols b)), PV.sl (List.length (TblT.idxs b)) (List.map PV.str (TblT.idxs b))]))))])
def zzay1 (t : List NodeT) (b : TblT) (s : ByteArray) := (Prod.snd (rowX (asT (PV.agg [PV.sl (List.length (asT (PV.agg [PV.sl (List.length t) (encN t)]))) (encN (asT (PV.agg [PV.sl (List.length t) (encN t)])))])) (asTb (zzay0 t b s)) s))
def zzay2 (t : List NodeT) (b : TblT) (s : ByteArray) := (PV.agg [PV.str (TblT.name b), PV.str (TblT.glob b), PV.sl (List.length (TblT.cols b)) (List.map PV.str (TblT.cols b)), PV.sl (List.length (TblT.idxs b)) (List.map PV.str (TblT.idxs b))])
def zzay3 (t : List NodeT) (b : TblT) (s : ByteArray) := (PV.agg [PV.sl (List.length (asT (PV.agg [PV.sl (List.length t) (encN t)]))) (encN (asT (PV.agg [PV.sl (List.length t) (encN t)])))])
def zzay4 (t : List NodeT) (b : TblT) (s : ByteArray) := (PV.sl (List.length (zzay1 t b s)) (List.map PV.str (zzay1 t b s)))
theorem jeF (t : List NodeT) (b : TblT) (s : ByteArray) : q_seA brC t b s =
 brC (decide ((↑(ByteArray.size s) : Int) > 1048576))
 (some ((.cv (.pv (.bool true)), [])))
 (brC (isTw (PV.agg [PV.sl (List.length t) (encN t)]) && inK 1048576)
 (brC (decide (szTr (asT (PV.agg [PV.sl (List.length t) (encN t)])) 1048576 < 0))
 (some ((.cv (.pv (.bool true)), [])))
 (brC (isTbw (zzay2 t b s) && inK (szTr (asT (PV.agg [PV.sl (List.length t) (encN t)])) 1048576))
 (brC (decide (szTb (asTb (zzay2 t b s)) (szTr (asT (PV.agg [PV.sl (List.length t) (encN t)])) 1048576) < 0))
 (some ((.cv (.pv (.bool true)), [])))
 (brC (isT (PV.agg [PV.sl (List.length t) (encN t)]))
 (brC (isTb (zzay2 t b s))
 (brC (isT (zzay3 t b s) && isTb (zzay0 t b s) && Prod.fst (rowX (asT (zzay3 t b s)) (asTb (zzay0 t b s)) s) == 0)
 (brC (isT (PV.agg [PV.sl (List.length t) (encN t)]))
 (brC (isTb (zzay2 t b s))
 (brC (isT (zzay3 t b s) && isTb (zzay0 t b s) && Prod.fst (rowX (asT (zzay3 t b s)) (asTb (zzay0 t b s)) s) == 0)
 (brC (IV.ownB (@Prod.fst IV (List (List CV)) (.tup [.agg [rwC (zzay1 t b s)], cI 0], [])) && jcy [])
 (brC (isL (zzay4 t b s) && isL (zzay4 t b s))
 (brC (!holds (asL (zzay4 t b s) = asL (zzay4 t b s)))
 (some ((.cv (.pv (.bool false)), [])))
 (brC (isT (PV.agg [PV.sl (List.length t) (encN t)]))
 (brC (isT (zzay3 t b s) && isT (zzay3 t b s))
 (brC (!holds (asT (zzay3 t b s) = asT (zzay3 t b s)))
 (some ((.cv (.pv (.bool false)), [])))
 (brC (isTb (zzay2 t b s))
 (brC (isTb (zzay0 t b s) && isTb (zzay0 t b s))
 (brC (!holds (asTb (zzay0 t b s) = asTb (zzay0 t b s)))
 (some ((.cv (.pv (.bool false)), [])))
 (brC (Nat.beq (70 + 2000000) 2000070 && isNs (PV.sl (List.length (asT (PV.agg [PV.sl (List.length t) (encN t)]))) (encN (asT (PV.agg [PV.sl (List.length t) (encN t)])))) && mrkB 1 && holds (mkNdE 1 (asNs (PV.sl (List.length (asT (PV.agg [PV.sl (List.length t) (encN t)]))) (encN (asT (PV.agg [PV.sl (List.length t) (encN t)]))))) ≤ 800000000))
 (brC (isL (PV.sl (List.length (TblT.cols (asTb (zzay2 t b s)))) (List.map PV.str (TblT.cols (asTb (zzay2 t b s))))) && isL (PV.sl (List.length (TblT.idxs (asTb (zzay2 t b s)))) (List.map PV.str (TblT.idxs (asTb (zzay2 t b s))))) && Nat.beq 9 9 && Nat.beq 9 9 && decide (1 ≤ mkNdE 1 (asNs (PV.sl (List.length (asT (PV.agg [PV.sl (List.length t) (encN t)]))) (encN (asT (PV.agg [PV.sl (List.length t) (encN t)])))))) && holds (mkNdE 1 (asNs (PV.sl (List.length (asT (PV.agg [PV.sl (List.length t) (encN t)]))) (encN (asT (PV.agg [PV.sl (List.length t) (encN t)]))))) ≤ 800000000))
 (brC (decide (mkNdE 1 (asNs (PV.sl (List.length (asT (PV.agg [PV.sl (List.length t) (encN t)]))) (encN (asT (PV.agg [PV.sl (List.length t) (encN t)]))))) + (↑(List.length (TblT.cols (asTb (zzay2 t b s)))) : Int) + (↑(List.length (TblT.idxs (asTb (zzay2 t b s)))) : Int) < 0))
 (some ((.cv (.pv (.bool false)), [])))
 (brC (isL (zzay4 t b s) && isL (zzay4 t b s))
 (brC (!holds (asL (zzay4 t b s) = asL (zzay4 t b s)))
 (some ((.cv (.pv (.bool false)), [])))
 (brC (isL (zzay4 t b s) && Nat.beq 9 9 && mrkB 1)
 (brC (isL (PV.sl (List.length (zzay1 t b s)) (List.map PV.str (mkL 1 (asL (zzay4 t b s))))) && mrkB 1 && holds (asL (PV.sl (List.length (zzay1 t b s)) (List.map PV.str (mkL 1 (asL (zzay4 t b s))))) = mkL 1 (asL (PV.sl (List.length (zzay1 t b s)) (List.map PV.str (mkL 1 (asL (zzay4 t b s))))))))
 (brC (1 + (↑(List.length (asL (PV.sl (List.length (zzay1 t b s)) (List.map PV.str (mkL 1 (asL (zzay4 t b s))))))) : Int) != 1 + (↑(List.length (asL (zzay4 t b s))) : Int))
 (some ((.cv (.pv (.bool false)), [])))
 (brC (isT (PV.agg [PV.sl (List.length t) (encN t)]))
 (brC (isTb (zzay2 t b s))
 (brC (isT (zzay3 t b s) && isTb (zzay0 t b s) && Prod.fst (rowX (asT (zzay3 t b s)) (asTb (zzay0 t b s)) s) == 0)
 (brC (isL (zzay4 t b s) && isL (zzay4 t b s))
 (brC (!holds (asL (zzay4 t b s) = asL (zzay4 t b s)))
 (some ((.cv (.pv (.bool false)), [])))
 (brC (isL (PV.sl (List.length (zzay1 t b s)) (List.map PV.str (mkL 1 (asL (zzay4 t b s))))) && mrkB 1 && holds (asL (PV.sl (List.length (zzay1 t b s)) (List.map PV.str (mkL 1 (asL (zzay4 t b s))))) = mkL 1 (asL (PV.sl (List.length (zzay1 t b s)) (List.map PV.str (mkL 1 (asL (zzay4 t b s))))))))
 (brC (1 + (↑(List.length (asL (PV.sl (List.length (zzay1 t b s)) (List.map PV.str (mkL 1 (asL (zzay4 t b s))))))) : Int) != 1 + (↑(List.length (asL (zzay4 t b s))) : Int))
 (some ((.cv (.pv (.bool false)), [])))
 (some ((.cv (.pv (.bool true)), []))))
 none))
 none)
 none)
 none)
 none))
 none)
 none))
 none))
 none)
 none))
 none)
 none))
 none)
 none))
 none)
 none)
 none)
 none)
 none)
 none)
 none)
 none))
 none))
 none) := by kernel_rfl
def zzaz0 (t : List NodeT) (b : TblT) (s : ByteArray) := (PV.agg [PV.str (TblT.name (asTb (PV.agg [PV.str (TblT.name b), PV.str (TblT.glob b), PV.sl (List.length (TblT.cols b)) (List.map PV.str (TblT.cols b)), PV.sl (List.length (TblT.idxs b)) (List.map PV.str (TblT.idxs b))]))), PV.str (TblT.glob (asTb (PV.agg [PV.str (TblT.name b), PV.str (TblT.glob b), PV.sl (List.length (TblT.cols b)) (List.map PV.str (TblT.cols b)), PV.sl (List.length (TblT.idxs b)) (List.map PV.str (TblT.idxs b))]))), PV.sl (List.length (TblT.cols (asTb (PV.agg [PV.str (TblT.name b), PV.str (TblT.glob b), PV.sl (List.length (TblT.cols b)) (List.map PV.str (TblT.cols b)), PV.sl (List.length (TblT.idxs b)) (List.map PV.str (TblT.idxs b))])))) (List.map PV.str (TblT.cols (asTb (PV.agg [PV.str (TblT.name b), PV.str (TblT.glob b), PV.sl (List.length (TblT.cols b)) (List.map PV.str (TblT.cols b)), PV.sl (List.length (TblT.idxs b)) (List.map PV.str (TblT.idxs b))])))), PV.sl (List.length (TblT.idxs (asTb (PV.agg [PV.str (TblT.name b), PV.str (TblT.glob b), PV.sl (List.length (TblT.cols b)) (List.map PV.str (TblT.cols b)), PV.sl (List.length (TblT.idxs b)) (List.map PV.str (TblT.idxs b))])))) (List.map PV.str (TblT.idxs (asTb (PV.agg [PV.str (TblT.name b), PV.str (TblT.glob b), PV.sl (List.length (TblT.cols b)) (List.map PV.str (TblT.cols b)), PV.sl (List.length (TblT.idxs b)) (List.map PV.str (TblT.idxs b))]))))])
def zzaz1 (t : List NodeT) (b : TblT) (s : ByteArray) := (PV.agg [PV.str (TblT.name b), PV.str (TblT.glob b), PV.sl (List.length (TblT.cols b)) (List.map PV.str (TblT.cols b)), PV.sl (List.length (TblT.idxs b)) (List.map PV.str (TblT.idxs b))])
def zzaz2 (t : List NodeT) (b : TblT) (s : ByteArray) := (PV.agg [PV.sl (List.length (asT (PV.agg [PV.sl (List.length t) (encN t)]))) (encN (asT (PV.agg [PV.sl (List.length t) (encN t)])))])
theorem jq2 (t : List NodeT) (b : TblT) (s : ByteArray) : q_seB brC t b s =
 brC (decide ((↑(ByteArray.size s) : Int) > 1048576))
 (some ((.cv (.pv (.bool true)), [])))
 (brC (isTw (PV.agg [PV.sl (List.length t) (encN t)]) && inK 1048576)
 (brC (decide (szTr (asT (PV.agg [PV.sl (List.length t) (encN t)])) 1048576 < 0))
 (some ((.cv (.pv (.bool true)), [])))
 (brC (isTbw (zzaz1 t b s) && inK (szTr (asT (PV.agg [PV.sl (List.length t) (encN t)])) 1048576))
 (brC (decide (szTb (asTb (zzaz1 t b s)) (szTr (asT (PV.agg [PV.sl (List.length t) (encN t)])) 1048576) < 0))
 (some ((.cv (.pv (.bool true)), [])))
 (brC (isT (PV.agg [PV.sl (List.length t) (encN t)]))
 (brC (isTb (zzaz1 t b s))
 (brC (isT (zzaz2 t b s) && isTb (zzaz0 t b s) && !Prod.fst (rowX (asT (zzaz2 t b s)) (asTb (zzaz0 t b s)) s) == 0)
 (brC (isT (PV.agg [PV.sl (List.length t) (encN t)]))
 (brC (isTb (zzaz1 t b s))
 (brC (isT (zzaz2 t b s) && isTb (zzaz0 t b s) && !Prod.fst (rowX (asT (zzaz2 t b s)) (asTb (zzaz0 t b s)) s) == 0)
 (brC (isL (PV.sl 0 []) && isL (PV.sl 0 []))
 (brC (!holds (asL (PV.sl 0 []) = asL (PV.sl 0 [])))
 (some ((.cv (.pv (.bool false)), [])))
 (brC (Prod.fst (rowX (asT (zzaz2 t b s)) (asTb (zzaz0 t b s)) s) != Prod.fst (rowX (asT (zzaz2 t b s)) (asTb (zzaz0 t b s)) s))
 (some ((.cv (.pv (.bool false)), [])))
 (brC (isT (PV.agg [PV.sl (List.length t) (encN t)]))
 (brC (isT (zzaz2 t b s) && isT (zzaz2 t b s))
 (brC (!holds (asT (zzaz2 t b s) = asT (zzaz2 t b s)))
 (some ((.cv (.pv (.bool false)), [])))
 (brC (isTb (zzaz1 t b s))
 (brC (isTb (zzaz0 t b s) && isTb (zzaz0 t b s))
 (brC (!holds (asTb (zzaz0 t b s) = asTb (zzaz0 t b s)))
 (some ((.cv (.pv (.bool false)), [])))
 (brC (Nat.beq (70 + 2000000) 2000070 && isNs (PV.sl (List.length (asT (PV.agg [PV.sl (List.length t) (encN t)]))) (encN (asT (PV.agg [PV.sl (List.length t) (encN t)])))) && mrkB 1 && holds (mkNdE 1 (asNs (PV.sl (List.length (asT (PV.agg [PV.sl (List.length t) (encN t)]))) (encN (asT (PV.agg [PV.sl (List.length t) (encN t)]))))) ≤ 800000000))
 (brC (isL (PV.sl (List.length (TblT.cols (asTb (zzaz1 t b s)))) (List.map PV.str (TblT.cols (asTb (zzaz1 t b s))))) && isL (PV.sl (List.length (TblT.idxs (asTb (zzaz1 t b s)))) (List.map PV.str (TblT.idxs (asTb (zzaz1 t b s))))) && Nat.beq 9 9 && Nat.beq 9 9 && decide (1 ≤ mkNdE 1 (asNs (PV.sl (List.length (asT (PV.agg [PV.sl (List.length t) (encN t)]))) (encN (asT (PV.agg [PV.sl (List.length t) (encN t)])))))) && holds (mkNdE 1 (asNs (PV.sl (List.length (asT (PV.agg [PV.sl (List.length t) (encN t)]))) (encN (asT (PV.agg [PV.sl (List.length t) (encN t)]))))) ≤ 800000000))
 (brC (decide (mkNdE 1 (asNs (PV.sl (List.length (asT (PV.agg [PV.sl (List.length t) (encN t)]))) (encN (asT (PV.agg [PV.sl (List.length t) (encN t)]))))) + (↑(List.length (TblT.cols (asTb (zzaz1 t b s)))) : Int) + (↑(List.length (TblT.idxs (asTb (zzaz1 t b s)))) : Int) < 0))
 (some ((.cv (.pv (.bool false)), [])))
 (brC (isL (PV.sl 0 []) && isL (PV.sl 0 []))
 (brC (!holds (asL (PV.sl 0 []) = asL (PV.sl 0 [])))
 (some ((.cv (.pv (.bool false)), [])))
 (brC (Prod.fst (rowX (asT (zzaz2 t b s)) (asTb (zzaz0 t b s)) s) != Prod.fst (rowX (asT (zzaz2 t b s)) (asTb (zzaz0 t b s)) s))
 (some ((.cv (.pv (.bool false)), [])))
 (brC (Nat.beq 0 0 && nilB [])
 (brC (isL (PV.sl 0 []) && mrkB 1 && holds (asL (PV.sl 0 []) = mkL 1 (asL (PV.sl 0 []))))
 (brC (1 + (↑(List.length (asL (PV.sl 0 []))) : Int) != 1)
 (some ((.cv (.pv (.bool false)), [])))
 (brC (isT (PV.agg [PV.sl (List.length t) (encN t)]))
 (brC (isTb (zzaz1 t b s))
 (brC (isT (zzaz2 t b s) && isTb (zzaz0 t b s) && !Prod.fst (rowX (asT (zzaz2 t b s)) (asTb (zzaz0 t b s)) s) == 0)
 (brC (isL (PV.sl 0 []) && isL (PV.sl 0 []))
 (brC (!holds (asL (PV.sl 0 []) = asL (PV.sl 0 [])))
 (some ((.cv (.pv (.bool false)), [])))
 (brC (Prod.fst (rowX (asT (zzaz2 t b s)) (asTb (zzaz0 t b s)) s) != Prod.fst (rowX (asT (zzaz2 t b s)) (asTb (zzaz0 t b s)) s))
 (some ((.cv (.pv (.bool false)), [])))
 (brC (isL (PV.sl 0 []) && mrkB 1 && holds (asL (PV.sl 0 []) = mkL 1 (asL (PV.sl 0 []))))
 (brC (1 + (↑(List.length (asL (PV.sl 0 []))) : Int) != 1)
 (some ((.cv (.pv (.bool false)), [])))
 (some ((.cv (.pv (.bool true)), []))))
 none)))
 none)
 none)
 none)
 none))
 none)
 none)))
 none))
 none)
 none))
 none)
 none))
 none)
 none)))
 none)
 none)
 none)
 none)
 none)
 none)
 none))
 none))
 none) := by kernel_rfl
end
section
open Go.RowKit
theorem jfy : shL [] := ⟨Nat.zero_le _, fun _ h => by cases h⟩
theorem jqU (b : TblT) {k v : ByteArray} (hk : k.size ≤ 50000) (hv : v.size ≤ 50000) : shL (jaX b k v) := by
 rw [jb5]
 have hsh := jnx hv
 split
 ·refine ⟨?_, fun u hu => ?_⟩
  ·have h4 := (jdO (datas (cutV v))).1
   rw [(jbZ v).1, List.length_map] at h4
   have hq : v.data.toList.length = v.size := by rw [Array.length_toList]; rfl
   rw [nqH]
   omega
  ·rcases List.mem_cons.1 hu with rfl | hu
   ·omega
   ·exact hsh.2 u hu
 ·exact ⟨by simp, fun u hu => by rw [List.mem_singleton.1 hu]; omega⟩
theorem jtj (t : List NodeT) (b : TblT) (k : ByteArray) : shL (rowX t b k).2 := by
 unfold rowX
 cases hT : treeB t with
 | false => exact jfy
 | true =>
  cases hB : tblB b with
  | false => exact jfy
  | true =>
   rw [Bool.true_and, cond_true]
   obtain ⟨c1, c2⟩ := jnU (keepR t b) b k
   by_cases hlt : atV (keepR t b) k < (keepR t b).length
   ·obtain ⟨x, hx, hr⟩ := c1 hlt
    rw [hr]
    have hxe : (keepR t b)[atV (keepR t b) k] = x := by rw [List.getElem?_eq_getElem hlt] at hx; injection hx
    obtain ⟨a, c, hs, hc, hv⟩ := jgG (jfx hT b) hlt
    have hkk : k.size ≤ 50000 := by
     have hq := (jgK (keepR t b) k).1
     rw [hx] at hq
     have := List.find?_some hq
     unfold isK at this
     rw [← hxe, hs] at this
     have e : c = k := ByteArray.ext (Array.ext' (by rw [← ByteArray.toList_eq, ← ByteArray.toList_eq]; exact eq_of_beq this))
     rw [← e]; omega
    rw [hxe] at hv
    cases hu : unpB b k x.value with
    | false => exact jfy
    | true => exact jqU b hkk (by omega)
   ·rw [c2 hlt]
    exact jfy
theorem jhN : ∀ l : List ByteArray, (l.map PV.str).all PV.flatB = true
 | [] => rfl
 | x :: t => by rw [List.map_cons, List.all_cons, jhN t]; rfl
theorem jsr (l : List ByteArray) (c : Int) : IV.ownB (IV.tup [IV.agg [rwC l], cI c]) = true := by
 show (((l.map PV.str).all PV.flatB && true) && (true && true)) = true
 rw [jhN]
 rfl
theorem jsn {t : List NodeT} (h : shTw t) : isE pT shTw (.agg [.sl t.length (encN t)]) = true := jbG (enc := pT) h
theorem jq1 {b : TblT} (h : shTbw b) : isE pTb shTbw (PV.agg [PV.str b.name, PV.str b.glob, PV.sl b.cols.length (b.cols.map PV.str), PV.sl b.idxs.length (b.idxs.map PV.str)]) = true := jbG (enc := pTb) h
theorem jss {l : List ByteArray} (h : shL l) (k : Int) : shL (mkL k l) := ⟨by rw [jdb]; exact h.1, fun x hx => by have := jrk l k x hx; omega⟩
theorem jtS : jab Tryz.prog 30 E_irA := ⟨jeE.1, fun ivs res bxs h => jeE.2 ivs res bxs (by
 unfold E_irA at h
 split at h
 ·obtain ⟨hc, he⟩ := pick1 h
  cases he
  unfold E_RowAt
  dsimp only
  rw [hc]
  rfl
 ·cases h)⟩
theorem jt5 : jab Tryz.prog 29 E_srA := ⟨jdI.1, fun ivs res bxs h => jdI.2 ivs res bxs (by
 unfold E_srA at h
 split at h
 ·obtain ⟨hc, he⟩ := pick1 h
  cases he
  unfold E_SRowAt
  dsimp only
  rw [hc]
  rfl
 ·cases h)⟩
theorem jtW : jab Tryz.prog 30 E_rB := ⟨jeE.1, fun ivs res bxs h => jeE.2 ivs res bxs (by
 unfold E_rB at h
 split at h
 ·rename_i p q k
  obtain ⟨hc, he⟩ := pick1 h
  cases he
  obtain ⟨h1, h2⟩ := andE hc
  unfold E_RowAt
  dsimp only
  rw [h1, show ((rowX (asT p) (asTb q) k).1 == 0) = false by cases e : ((rowX (asT p) (asTb q) k).1 == 0) <;> rw [e] at h2 <;> first | rfl | cases h2]
  rfl
 ·cases h)⟩
theorem jt4 : jab Tryz.prog 29 E_rB := ⟨jdI.1, fun ivs res bxs h => jdI.2 ivs res bxs (by
 unfold E_rB at h
 split at h
 ·rename_i p q k
  obtain ⟨hc, he⟩ := pick1 h
  cases he
  obtain ⟨h1, h2⟩ := andE hc
  unfold E_SRowAt
  dsimp only
  rw [h1, show ((rowX (asT p) (asTb q) k).1 == 0) = false by cases e : ((rowX (asT p) (asTb q) k).1 == 0) <;> rw [e] at h2 <;> first | rfl | cases h2]
  rfl
 ·cases h)⟩
theorem jrp {S I : Entry} (h1 : jab Tryz.prog 29 S) (h2 : jab Tryz.prog 30 I) : jad Tryz.prog (seb S I) := ⟨jt8, jrT, jt2, jrP, h1, h2, jsF, jtm, jrY, jsQ, jte, jrH, jsx, trivial⟩
theorem jr0 (t : List NodeT) (b : TblT) (s : ByteArray) (ht : shTw t) (hb : shTbw b) : q_seA brC t b s = some (cB true, []) ∨ q_seB brC t b s = some (cB true, []) := by
 have iTw := jsn ht
 have iTbw := jq1 hb
 have aT := jbe t
 have aTb := jao b
 have k0 : inK 1048576 = true := jex (by omega) (by omega)
 by_cases hs : (s.size : Int) > 1048576
 ·left
  have tree := jeF t b s
  revert tree; try delta zzay4; intro tree
  revert tree; try delta zzay3; intro tree
  revert tree; try delta zzay2; intro tree
  revert tree; try delta zzay1; intro tree
  revert tree; try delta zzay0; intro tree
  rw [dT hs] at tree
  exact tree.trans rfl
 have d0 : decide ((s.size : Int) > 1048576) = false := dF hs
 by_cases h1 : szTr t 1048576 < 0
 ·left
  have tree := jeF t b s
  revert tree; try delta zzay4; intro tree
  revert tree; try delta zzay3; intro tree
  revert tree; try delta zzay2; intro tree
  revert tree; try delta zzay1; intro tree
  revert tree; try delta zzay0; intro tree
  simp only [d0, isT, asT, isTw, iTw, aT, k0, dT h1, Bool.and_true, brTc, brFc] at tree
  exact tree.trans rfl
 have d1 : decide (szTr t 1048576 < 0) = false := dF h1
 obtain ⟨shT_t, hle⟩ := jsm (l := t) (k := 1048576) (by omega) (by omega)
 have k1 : inK (szTr t 1048576) = true := jex (by omega) (by omega)
 have hmk := jtf (l := t) (k := 1048576) (by omega) (by omega)
 by_cases h2 : szTb b (szTr t 1048576) < 0
 ·left
  have tree := jeF t b s
  revert tree; try delta zzay4; intro tree
  revert tree; try delta zzay3; intro tree
  revert tree; try delta zzay2; intro tree
  revert tree; try delta zzay1; intro tree
  revert tree; try delta zzay0; intro tree
  simp only [d0, isT, asT, isTb, asTb, isTw, isTbw, iTw, aT, k0, d1, iTbw, aTb, k1, dT h2, Bool.and_true, Bool.true_and, brTc, brFc] at tree
  exact tree.trans rfl
 have d2 : decide (szTb b (szTr t 1048576) < 0) = false := dF h2
 obtain ⟨shT_b, _⟩ := jr1 (b := b) (k := szTr t 1048576) (by omega) (by omega)
 have iT := jiy shT_t
 have iTb := jbm shT_b
 have iNs := jbu shT_t
 have aNs := jas t
 have eT : holds (t = t) = true := jam rfl
 have eB : holds (b = b) = true := jam rfl
 have m1 : mrkB 1 = true := jrX (by omega) (by omega)
 have m2 : holds (mkNdE 1 t ≤ 800000000) = true := jam (by omega)
 have hge := jg2 t 1
 have m3 : decide (1 ≤ mkNdE 1 t) = true := dT hge
 have iC := jak shT_b.2.2.1
 have iI := jak shT_b.2.2.2
 have aC := jaf b.cols
 have aI' := jaf b.idxs
 have m4 : decide (mkNdE 1 t + (b.cols.length : Int) + (b.idxs.length : Int) < 0) = false := dF (by omega)
 have hT : holds True = true := jam trivial
 have hX := jtj t b s
 cases hc : ((rowX t b s).1 == 0) with
 | true =>
  left
  have tree := jeF t b s
  revert tree; try delta zzay4; intro tree
  revert tree; try delta zzay3; intro tree
  revert tree; try delta zzay2; intro tree
  revert tree; try delta zzay1; intro tree
  revert tree; try delta zzay0; intro tree
  have hm := jss hX 1
  have eL : holds ((rowX t b s).2 = (rowX t b s).2) = true := jam rfl
  have eM : holds (mkL 1 (rowX t b s).2 = mkL 1 (mkL 1 (rowX t b s).2)) = true := jam (jlb _ _).symm
  generalize hl : (rowX t b s).2 = l at tree hX hm eL eM
  have iL := jak hX
  have aL := jaf l
  have iM := jak hm
  have aM := jaf (mkL 1 l)
  rw [jdb] at iM aM
  have ow := jsr l 0
  have n1 : ((1 : Int) + (l.length : Int) != 1 + (l.length : Int)) = false := bne_self_eq_false _
  simp only [d0, isTw, isTbw, isT, asT, isTb, asTb, isNs, asNs, isL, asL, iTw, aT, k0, d1, iTbw, aTb, k1, d2, iT, iTb, iNs, aNs, eT, eB, m1, m2, m3, iC, iI, aC, aI', m4, hc, hl, eL, eM, iL, aL, iM, aM, ow, jdb, hT, n1, Bool.and_true, Bool.true_and, Bool.not_true, Bool.not_false, beq_self_eq_true, brTc, brFc] at tree
  exact tree.trans rfl
 | false =>
  right
  have tree := jq2 t b s
  revert tree; try delta zzaz2; intro tree
  revert tree; try delta zzaz1; intro tree
  revert tree; try delta zzaz0; intro tree
  have i0 : isL (PV.sl 0 []) = true := jak jfy
  have a0 : asL (PV.sl 0 []) = [] := jaf []
  have e0 : holds (([] : List ByteArray) = mkL 1 []) = true := jam rfl
  have n0 : ((1 : Int) + ((0 : Nat) : Int) != 1) = false := by decide
  have nn : ((rowX t b s).1 != (rowX t b s).1) = false := bne_self_eq_false _
  simp only [d0, isTw, isTbw, isT, asT, isTb, asTb, isNs, asNs, isL, asL, iTw, aT, k0, d1, iTbw, aTb, k1, d2, iT, iTb, iNs, aNs, eT, eB, m1, m2, m3, iC, iI, aC, aI', m4, hc, i0, a0, e0, List.length_nil, n0, nn, jcJ, hT, Bool.and_true, Bool.true_and, Bool.not_true, Bool.not_false, beq_self_eq_true, brTc, brFc] at tree
  exact tree.trans rfl
theorem jrF {S I : Entry} (h : jad Tryz.prog (seb S I)) {t : List NodeT} {b : TblT} {s : ByteArray} (hq : evB brC Tryz.prog (seb S I) jlp LO0 Tryz.f5 [cP (pT t), cP (pTb b), cS s] = some (cB true, [])) : jaD Tryz.prog 5 ([pT t, pTb b, .str s].map fun p => .cv (.pv p)) (.cv (.pv (.bool true))) [] :=
 jkm mix (jhA (l := seb S I) h) (O := OL jlp) (LO := LO0) ⟨Tryz.func5, by kernel_rfl, by kernel_rfl⟩ (by kernel_rfl) rfl (jal (by kernel_rfl)) hq
theorem FnExactRowAt_walk (v : Value) (t : List NodeT) (v' : Value) (b : TblT) (v'' : Value) (s : ByteArray) (w : World) (hv : PRep w (ja4 w) v (pT t)) (ht : shTw t) (hv' : PRep w (ja4 w) v' (pTb b)) (hb : shTbw b) (hv'' : PRep w (ja4 w) v'' (.str s)) (_ : s.size ≤ 2 ^ 63 - 1) (hgl : Gl w (ja4 w)) :
  Calls Tryz.prog 5 #[v, v', v''] w fun e w' => e = .returned (.bool true) ∧ Below w.heap.size w w' := by
 have hc : jaD Tryz.prog 5 ([pT t, pTb b, .str s].map fun p => .cv (.pv p)) (.cv (.pv (.bool true))) [] := by
  rcases jr0 t b s ht hb with h | h
  ·exact jrF (jrp jt5 jtS) h
  ·exact jrF (jrp jt4 jtW) h
 exact hc.lawTop (w := w) (vals := [v, v', v'']) (PReps.cons hv (PReps.cons hv' (PReps.cons hv'' (PReps.nil _ _)))) hgl
end
section
end
end
end Go.Proofs.YtbeebeamdjbkmaaGreatDoor
