import Derived.Test.YtbeebeamdjbkmaaGreatDoorXXl
namespace Go.Proofs.YtbeebeamdjbkmaaGreatDoor
noncomputable section
set_option linter.unusedVariables false
set_option maxRecDepth 100000
set_option linter.unusedSimpArgs false
section
def zzaz0 (t : List NodeT) (b : TblT) (l : List ByteArray) := (PV.agg [PV.str (TblT.name (asTb (PV.agg [PV.str (TblT.name b), PV.str (TblT.glob b), PV.sl (List.length (TblT.cols b)) (List.map PV.str (TblT.cols b)), PV.sl (List.length (TblT.idxs b)) (List.map PV.str (TblT.idxs b))]))), PV.str (TblT.glob (asTb (PV.agg [PV.str (TblT.name b), PV.str (TblT.glob b), PV.sl (List.length (TblT.cols b)) (List.map PV.str (TblT.cols b)), PV.sl (List.length (TblT.idxs b)) (List.map PV.str (TblT.idxs b))]))), PV.sl (List.length (TblT.cols (asTb (PV.agg [PV.str (TblT.name b), PV.str (TblT.glob b), PV.sl (List.length (TblT.cols b)) (List.map PV.str (TblT.cols b)), PV.sl (List.length (TblT.idxs b)) (List.map PV.str (TblT.idxs b))])))) (List.map PV.str (TblT.cols (asTb (PV.agg [PV.str (TblT.name b), PV.str (TblT.glob b), PV.sl (List.length (TblT.cols b)) (List.map PV.str (TblT.cols b)), PV.sl (List.length (TblT.idxs b)) (List.map PV.str (TblT.idxs b))])))), PV.sl (List.length (TblT.idxs (asTb (PV.agg [PV.str (TblT.name b), PV.str (TblT.glob b), PV.sl (List.length (TblT.cols b)) (List.map PV.str (TblT.cols b)), PV.sl (List.length (TblT.idxs b)) (List.map PV.str (TblT.idxs b))])))) (List.map PV.str (TblT.idxs (asTb (PV.agg [PV.str (TblT.name b), PV.str (TblT.glob b), PV.sl (List.length (TblT.cols b)) (List.map PV.str (TblT.cols b)), PV.sl (List.length (TblT.idxs b)) (List.map PV.str (TblT.idxs b))]))))])
def zzaz1 (t : List NodeT) (b : TblT) (l : List ByteArray) := (insX (asTb (zzaz0 t b l)) (asL (PV.sl (List.length (asL (PV.sl (List.length l) (List.map PV.str l)))) (List.map PV.str (asL (PV.sl (List.length l) (List.map PV.str l)))))))
def zzaz2 (t : List NodeT) (b : TblT) (l : List ByteArray) := (PV.agg [PV.str (TblT.name b), PV.str (TblT.glob b), PV.sl (List.length (TblT.cols b)) (List.map PV.str (TblT.cols b)), PV.sl (List.length (TblT.idxs b)) (List.map PV.str (TblT.idxs b))])
def zzaz3 (t : List NodeT) (b : TblT) (l : List ByteArray) := (PV.sl (List.length (asL (PV.sl (List.length l) (List.map PV.str l)))) (List.map PV.str (asL (PV.sl (List.length l) (List.map PV.str l)))))
def zzaz4 (t : List NodeT) (b : TblT) (l : List ByteArray) := (PV.sl (List.length (zzaz1 t b l)) (encC (mkChs 1 (asCs (PV.sl (List.length (zzaz1 t b l)) (encC (zzaz1 t b l)))))))
def zzaz5 (t : List NodeT) (b : TblT) (l : List ByteArray) := (PV.agg [PV.sl (List.length (asT (PV.agg [PV.sl (List.length t) (encN t)]))) (encN (asT (PV.agg [PV.sl (List.length t) (encN t)])))])
def zzaz6 (t : List NodeT) (b : TblT) (l : List ByteArray) := (PV.sl (List.length (asT (PV.agg [PV.sl (List.length t) (encN t)]))) (encN (asT (PV.agg [PV.sl (List.length t) (encN t)]))))
def zzaz7 (t : List NodeT) (b : TblT) (l : List ByteArray) := (PV.sl (List.length (zzaz1 t b l)) (encC (zzaz1 t b l)))
theorem jeW (t : List NodeT) (b : TblT) (l : List ByteArray) : q_sjA brC t b l =
 brC (isTw (PV.agg [PV.sl (List.length t) (encN t)]) && inK 1048576)
 (brC (decide (szTr (asT (PV.agg [PV.sl (List.length t) (encN t)])) 1048576 < 0))
 (some ((.cv (.pv (.bool true)), [])))
 (brC (isTbw (zzaz2 t b l) && inK (szTr (asT (PV.agg [PV.sl (List.length t) (encN t)])) 1048576))
 (brC (decide (szTb (asTb (zzaz2 t b l)) (szTr (asT (PV.agg [PV.sl (List.length t) (encN t)])) 1048576) < 0))
 (some ((.cv (.pv (.bool true)), [])))
 (brC (isLw (PV.sl (List.length l) (List.map PV.str l)) && inK (szTb (asTb (zzaz2 t b l)) (szTr (asT (PV.agg [PV.sl (List.length t) (encN t)])) 1048576)))
 (brC (decide (szRw (asL (PV.sl (List.length l) (List.map PV.str l))) (szTb (asTb (zzaz2 t b l)) (szTr (asT (PV.agg [PV.sl (List.length t) (encN t)])) 1048576)) < 0))
 (some ((.cv (.pv (.bool true)), [])))
 (brC (isT (PV.agg [PV.sl (List.length t) (encN t)]))
 (brC (isTb (zzaz2 t b l))
 (brC (isL (PV.sl (List.length l) (List.map PV.str l)))
 (brC (isT (zzaz5 t b l) && isTb (zzaz0 t b l) && isL (zzaz3 t b l) && insC (asT (zzaz5 t b l)) (asTb (zzaz0 t b l)) (asL (zzaz3 t b l)) == 0)
 (brC (isT (PV.agg [PV.sl (List.length t) (encN t)]))
 (brC (isTb (zzaz2 t b l))
 (brC (isL (PV.sl (List.length l) (List.map PV.str l)))
 (brC (isT (zzaz5 t b l) && isTb (zzaz0 t b l) && isL (zzaz3 t b l) && insC (asT (zzaz5 t b l)) (asTb (zzaz0 t b l)) (asL (zzaz3 t b l)) == 0)
 (brC (IV.ownB (@Prod.fst IV (List (List CV)) (.tup [.cv (.dls 4 75 (List.length (zzaz1 t b l)) (encC (zzaz1 t b l))), cI 0], [])) && jcr [])
 (brC (isCs (zzaz7 t b l) && isCs (zzaz7 t b l))
 (brC (!holds (asCs (zzaz7 t b l) = asCs (zzaz7 t b l)))
 (some ((.cv (.pv (.bool false)), [])))
 (brC (isT (PV.agg [PV.sl (List.length t) (encN t)]))
 (brC (isT (zzaz5 t b l) && isT (zzaz5 t b l))
 (brC (!holds (asT (zzaz5 t b l) = asT (zzaz5 t b l)))
 (some ((.cv (.pv (.bool false)), [])))
 (brC (isTb (zzaz2 t b l))
 (brC (isTb (zzaz0 t b l) && isTb (zzaz0 t b l))
 (brC (!holds (asTb (zzaz0 t b l) = asTb (zzaz0 t b l)))
 (some ((.cv (.pv (.bool false)), [])))
 (brC (isL (PV.sl (List.length l) (List.map PV.str l)))
 (brC (isL (zzaz3 t b l) && isL (zzaz3 t b l))
 (brC (!holds (asL (zzaz3 t b l) = asL (zzaz3 t b l)))
 (some ((.cv (.pv (.bool false)), [])))
 (brC (Nat.beq (70 + 2000000) 2000070 && isNs (zzaz6 t b l) && mrkB 1 && holds (mkNdE 1 (asNs (zzaz6 t b l)) ≤ 800000000))
 (brC (isL (PV.sl (List.length (TblT.cols (asTb (zzaz2 t b l)))) (List.map PV.str (TblT.cols (asTb (zzaz2 t b l))))) && isL (PV.sl (List.length (TblT.idxs (asTb (zzaz2 t b l)))) (List.map PV.str (TblT.idxs (asTb (zzaz2 t b l))))) && Nat.beq 9 9 && Nat.beq 9 9 && decide (1 ≤ mkNdE 1 (asNs (zzaz6 t b l))) && holds (mkNdE 1 (asNs (zzaz6 t b l)) ≤ 800000000))
 (brC (isL (zzaz3 t b l) && Nat.beq 9 9 && mrkB (mkNdE 1 (asNs (zzaz6 t b l)) + (↑(List.length (TblT.cols (asTb (zzaz2 t b l)))) : Int) + (↑(List.length (TblT.idxs (asTb (zzaz2 t b l)))) : Int)))
 (brC (decide (mkNdE 1 (asNs (zzaz6 t b l)) + (↑(List.length (TblT.cols (asTb (zzaz2 t b l)))) : Int) + (↑(List.length (TblT.idxs (asTb (zzaz2 t b l)))) : Int) + (↑(List.length (asL (zzaz3 t b l))) : Int) < 0))
 (some ((.cv (.pv (.bool false)), [])))
 (brC (isCs (zzaz7 t b l) && isCs (zzaz7 t b l))
 (brC (!holds (asCs (zzaz7 t b l) = asCs (zzaz7 t b l)))
 (some ((.cv (.pv (.bool false)), [])))
 (brC (Nat.beq (75 + 2000000) 2000075 && isCs (zzaz7 t b l) && mrkB 1 && holds (mkChE 1 (asCs (zzaz7 t b l)) ≤ 800000000))
 (brC (isCs (zzaz4 t b l) && mrkB 1 && holds (mkChE 1 (asCs (zzaz4 t b l)) ≤ 800000000) && holds (asCs (zzaz4 t b l) = mkChs 1 (asCs (zzaz4 t b l))))
 (brC (decide (mkChE 1 (asCs (zzaz4 t b l)) < 0))
 (some ((.cv (.pv (.bool false)), [])))
 (brC (mkChE 1 (asCs (zzaz4 t b l)) != mkChE 1 (asCs (zzaz7 t b l)))
 (some ((.cv (.pv (.bool false)), [])))
 (brC (isT (PV.agg [PV.sl (List.length t) (encN t)]))
 (brC (isTb (zzaz2 t b l))
 (brC (isL (PV.sl (List.length l) (List.map PV.str l)))
 (brC (isT (zzaz5 t b l) && isTb (zzaz0 t b l) && isL (zzaz3 t b l) && insC (asT (zzaz5 t b l)) (asTb (zzaz0 t b l)) (asL (zzaz3 t b l)) == 0)
 (brC (isCs (zzaz7 t b l) && isCs (zzaz7 t b l))
 (brC (!holds (asCs (zzaz7 t b l) = asCs (zzaz7 t b l)))
 (some ((.cv (.pv (.bool false)), [])))
 (brC (isCs (zzaz4 t b l) && mrkB 1 && holds (mkChE 1 (asCs (zzaz4 t b l)) ≤ 800000000) && holds (asCs (zzaz4 t b l) = mkChs 1 (asCs (zzaz4 t b l))))
 (brC (decide (mkChE 1 (asCs (zzaz4 t b l)) < 0))
 (some ((.cv (.pv (.bool false)), [])))
 (brC (mkChE 1 (asCs (zzaz4 t b l)) != mkChE 1 (asCs (zzaz7 t b l)))
 (some ((.cv (.pv (.bool false)), [])))
 (some ((.cv (.pv (.bool true)), [])))))
 none))
 none)
 none)
 none)
 none)
 none)))
 none)
 none))
 none))
 none)
 none)
 none))
 none)
 none))
 none)
 none))
 none)
 none))
 none)
 none)
 none)
 none)
 none)
 none)
 none)
 none)
 none)
 none))
 none))
 none))
 none := by kernel_rfl
def zzba0 (t : List NodeT) (b : TblT) (l : List ByteArray) := (PV.agg [PV.str (TblT.name (asTb (PV.agg [PV.str (TblT.name b), PV.str (TblT.glob b), PV.sl (List.length (TblT.cols b)) (List.map PV.str (TblT.cols b)), PV.sl (List.length (TblT.idxs b)) (List.map PV.str (TblT.idxs b))]))), PV.str (TblT.glob (asTb (PV.agg [PV.str (TblT.name b), PV.str (TblT.glob b), PV.sl (List.length (TblT.cols b)) (List.map PV.str (TblT.cols b)), PV.sl (List.length (TblT.idxs b)) (List.map PV.str (TblT.idxs b))]))), PV.sl (List.length (TblT.cols (asTb (PV.agg [PV.str (TblT.name b), PV.str (TblT.glob b), PV.sl (List.length (TblT.cols b)) (List.map PV.str (TblT.cols b)), PV.sl (List.length (TblT.idxs b)) (List.map PV.str (TblT.idxs b))])))) (List.map PV.str (TblT.cols (asTb (PV.agg [PV.str (TblT.name b), PV.str (TblT.glob b), PV.sl (List.length (TblT.cols b)) (List.map PV.str (TblT.cols b)), PV.sl (List.length (TblT.idxs b)) (List.map PV.str (TblT.idxs b))])))), PV.sl (List.length (TblT.idxs (asTb (PV.agg [PV.str (TblT.name b), PV.str (TblT.glob b), PV.sl (List.length (TblT.cols b)) (List.map PV.str (TblT.cols b)), PV.sl (List.length (TblT.idxs b)) (List.map PV.str (TblT.idxs b))])))) (List.map PV.str (TblT.idxs (asTb (PV.agg [PV.str (TblT.name b), PV.str (TblT.glob b), PV.sl (List.length (TblT.cols b)) (List.map PV.str (TblT.cols b)), PV.sl (List.length (TblT.idxs b)) (List.map PV.str (TblT.idxs b))]))))])
def zzba1 (t : List NodeT) (b : TblT) (l : List ByteArray) := (PV.agg [PV.str (TblT.name b), PV.str (TblT.glob b), PV.sl (List.length (TblT.cols b)) (List.map PV.str (TblT.cols b)), PV.sl (List.length (TblT.idxs b)) (List.map PV.str (TblT.idxs b))])
def zzba2 (t : List NodeT) (b : TblT) (l : List ByteArray) := (PV.sl (List.length (asL (PV.sl (List.length l) (List.map PV.str l)))) (List.map PV.str (asL (PV.sl (List.length l) (List.map PV.str l)))))
def zzba3 (t : List NodeT) (b : TblT) (l : List ByteArray) := (PV.agg [PV.sl (List.length (asT (PV.agg [PV.sl (List.length t) (encN t)]))) (encN (asT (PV.agg [PV.sl (List.length t) (encN t)])))])
def zzba4 (t : List NodeT) (b : TblT) (l : List ByteArray) := (PV.sl (List.length (asT (PV.agg [PV.sl (List.length t) (encN t)]))) (encN (asT (PV.agg [PV.sl (List.length t) (encN t)]))))
theorem jqK (t : List NodeT) (b : TblT) (l : List ByteArray) : q_sjB brC t b l =
 brC (isTw (PV.agg [PV.sl (List.length t) (encN t)]) && inK 1048576)
 (brC (decide (szTr (asT (PV.agg [PV.sl (List.length t) (encN t)])) 1048576 < 0))
 (some ((.cv (.pv (.bool true)), [])))
 (brC (isTbw (zzba1 t b l) && inK (szTr (asT (PV.agg [PV.sl (List.length t) (encN t)])) 1048576))
 (brC (decide (szTb (asTb (zzba1 t b l)) (szTr (asT (PV.agg [PV.sl (List.length t) (encN t)])) 1048576) < 0))
 (some ((.cv (.pv (.bool true)), [])))
 (brC (isLw (PV.sl (List.length l) (List.map PV.str l)) && inK (szTb (asTb (zzba1 t b l)) (szTr (asT (PV.agg [PV.sl (List.length t) (encN t)])) 1048576)))
 (brC (decide (szRw (asL (PV.sl (List.length l) (List.map PV.str l))) (szTb (asTb (zzba1 t b l)) (szTr (asT (PV.agg [PV.sl (List.length t) (encN t)])) 1048576)) < 0))
 (some ((.cv (.pv (.bool true)), [])))
 (brC (isT (PV.agg [PV.sl (List.length t) (encN t)]))
 (brC (isTb (zzba1 t b l))
 (brC (isL (PV.sl (List.length l) (List.map PV.str l)))
 (brC (isT (zzba3 t b l) && isTb (zzba0 t b l) && isL (zzba2 t b l) && !insC (asT (zzba3 t b l)) (asTb (zzba0 t b l)) (asL (zzba2 t b l)) == 0)
 (brC (isT (PV.agg [PV.sl (List.length t) (encN t)]))
 (brC (isTb (zzba1 t b l))
 (brC (isL (PV.sl (List.length l) (List.map PV.str l)))
 (brC (isT (zzba3 t b l) && isTb (zzba0 t b l) && isL (zzba2 t b l) && !insC (asT (zzba3 t b l)) (asTb (zzba0 t b l)) (asL (zzba2 t b l)) == 0)
 (brC (isCs (PV.sl 0 []) && isCs (PV.sl 0 []))
 (brC (!holds (asCs (PV.sl 0 []) = asCs (PV.sl 0 [])))
 (some ((.cv (.pv (.bool false)), [])))
 (brC (insC (asT (zzba3 t b l)) (asTb (zzba0 t b l)) (asL (zzba2 t b l)) != insC (asT (zzba3 t b l)) (asTb (zzba0 t b l)) (asL (zzba2 t b l)))
 (some ((.cv (.pv (.bool false)), [])))
 (brC (isT (PV.agg [PV.sl (List.length t) (encN t)]))
 (brC (isT (zzba3 t b l) && isT (zzba3 t b l))
 (brC (!holds (asT (zzba3 t b l) = asT (zzba3 t b l)))
 (some ((.cv (.pv (.bool false)), [])))
 (brC (isTb (zzba1 t b l))
 (brC (isTb (zzba0 t b l) && isTb (zzba0 t b l))
 (brC (!holds (asTb (zzba0 t b l) = asTb (zzba0 t b l)))
 (some ((.cv (.pv (.bool false)), [])))
 (brC (isL (PV.sl (List.length l) (List.map PV.str l)))
 (brC (isL (zzba2 t b l) && isL (zzba2 t b l))
 (brC (!holds (asL (zzba2 t b l) = asL (zzba2 t b l)))
 (some ((.cv (.pv (.bool false)), [])))
 (brC (Nat.beq (70 + 2000000) 2000070 && isNs (zzba4 t b l) && mrkB 1 && holds (mkNdE 1 (asNs (zzba4 t b l)) ≤ 800000000))
 (brC (isL (PV.sl (List.length (TblT.cols (asTb (zzba1 t b l)))) (List.map PV.str (TblT.cols (asTb (zzba1 t b l))))) && isL (PV.sl (List.length (TblT.idxs (asTb (zzba1 t b l)))) (List.map PV.str (TblT.idxs (asTb (zzba1 t b l))))) && Nat.beq 9 9 && Nat.beq 9 9 && decide (1 ≤ mkNdE 1 (asNs (zzba4 t b l))) && holds (mkNdE 1 (asNs (zzba4 t b l)) ≤ 800000000))
 (brC (isL (zzba2 t b l) && Nat.beq 9 9 && mrkB (mkNdE 1 (asNs (zzba4 t b l)) + (↑(List.length (TblT.cols (asTb (zzba1 t b l)))) : Int) + (↑(List.length (TblT.idxs (asTb (zzba1 t b l)))) : Int)))
 (brC (decide (mkNdE 1 (asNs (zzba4 t b l)) + (↑(List.length (TblT.cols (asTb (zzba1 t b l)))) : Int) + (↑(List.length (TblT.idxs (asTb (zzba1 t b l)))) : Int) + (↑(List.length (asL (zzba2 t b l))) : Int) < 0))
 (some ((.cv (.pv (.bool false)), [])))
 (brC (isCs (PV.sl 0 []) && isCs (PV.sl 0 []))
 (brC (!holds (asCs (PV.sl 0 []) = asCs (PV.sl 0 [])))
 (some ((.cv (.pv (.bool false)), [])))
 (brC (insC (asT (zzba3 t b l)) (asTb (zzba0 t b l)) (asL (zzba2 t b l)) != insC (asT (zzba3 t b l)) (asTb (zzba0 t b l)) (asL (zzba2 t b l)))
 (some ((.cv (.pv (.bool false)), [])))
 (brC (Nat.beq 0 0 && nilB [])
 (brC (isCs (PV.sl 0 []) && mrkB 1 && holds (mkChE 1 (asCs (PV.sl 0 [])) ≤ 800000000) && holds (asCs (PV.sl 0 []) = mkChs 1 (asCs (PV.sl 0 []))))
 (brC (decide (mkChE 1 (asCs (PV.sl 0 [])) < 0))
 (some ((.cv (.pv (.bool false)), [])))
 (brC (mkChE 1 (asCs (PV.sl 0 [])) != 1)
 (some ((.cv (.pv (.bool false)), [])))
 (brC (isT (PV.agg [PV.sl (List.length t) (encN t)]))
 (brC (isTb (zzba1 t b l))
 (brC (isL (PV.sl (List.length l) (List.map PV.str l)))
 (brC (isT (zzba3 t b l) && isTb (zzba0 t b l) && isL (zzba2 t b l) && !insC (asT (zzba3 t b l)) (asTb (zzba0 t b l)) (asL (zzba2 t b l)) == 0)
 (brC (isCs (PV.sl 0 []) && isCs (PV.sl 0 []))
 (brC (!holds (asCs (PV.sl 0 []) = asCs (PV.sl 0 [])))
 (some ((.cv (.pv (.bool false)), [])))
 (brC (insC (asT (zzba3 t b l)) (asTb (zzba0 t b l)) (asL (zzba2 t b l)) != insC (asT (zzba3 t b l)) (asTb (zzba0 t b l)) (asL (zzba2 t b l)))
 (some ((.cv (.pv (.bool false)), [])))
 (brC (isCs (PV.sl 0 []) && mrkB 1 && holds (mkChE 1 (asCs (PV.sl 0 [])) ≤ 800000000) && holds (asCs (PV.sl 0 []) = mkChs 1 (asCs (PV.sl 0 []))))
 (brC (decide (mkChE 1 (asCs (PV.sl 0 [])) < 0))
 (some ((.cv (.pv (.bool false)), [])))
 (brC (mkChE 1 (asCs (PV.sl 0 [])) != 1)
 (some ((.cv (.pv (.bool false)), [])))
 (some ((.cv (.pv (.bool true)), [])))))
 none)))
 none)
 none)
 none)
 none)
 none)))
 none)
 none)))
 none))
 none)
 none)
 none))
 none)
 none))
 none)
 none))
 none)
 none)))
 none)
 none)
 none)
 none)
 none)
 none)
 none)
 none)
 none))
 none))
 none))
 none := by kernel_rfl
end
section
open Go.RowKit
theorem js3 {t : List NodeT} (h : shTw t) : isE pT shTw (.agg [.sl t.length (encN t)]) = true := ja9 (enc := pT) h
theorem jrl {b : TblT} (h : shTbw b) : isE pTb shTbw (PV.agg [PV.str b.name, PV.str b.glob, PV.sl b.cols.length (b.cols.map PV.str), PV.sl b.idxs.length (b.idxs.map PV.str)]) = true := ja9 (enc := pTb) h
theorem jtn {l : List ByteArray} (h : shL l) (k : Int) : shL (mkL k l) := ⟨by rw [jch]; exact h.1, fun x hx => by have := jse l k x hx; omega⟩
theorem flatS (g : PV → Nat × TypeId → Bool) : ∀ (l : List ByteArray) (o : Nat), flatL g 1 9 o (l.map PV.str) = true
 | [], _ => rfl
 | x :: t, o => by
  have h0 : kidA 9 0 = none := by kernel_rfl
  show ((match kidA 9 (o % 1) with | none => PV.flatB (.str x) | some y => g (.str x) y) && flatL g 1 9 (o + 1) (t.map PV.str)) = true
  rw [Nat.mod_one, h0, flatS g t (o + 1)]
  rfl
theorem flatC (g : PV → Nat × TypeId → Bool) (hg : ∀ (n : Nat) (l : List ByteArray), g (.sl n (l.map PV.str)) (1, 9) = true) : ∀ (l : List ChT) (i : Nat), flatL g 4 75 (i * 4) (encC l) = true
 | [], _ => rfl
 | x :: t, i => by
  have h0 : kidA 75 0 = none := by kernel_rfl
  have h1 : kidA 75 1 = none := by kernel_rfl
  have h2 : kidA 75 2 = some (1, 9) := by kernel_rfl
  have h3 : kidA 75 3 = none := by kernel_rfl
  have ih := flatC g hg t (i + 1)
  show ((match kidA 75 (i * 4 % 4) with | none => PV.flatB (.int .i64 x.kind) | some y => g (.int .i64 x.kind) y) && ((match kidA 75 ((i * 4 + 1) % 4) with | none => PV.flatB (.str x.name) | some y => g (.str x.name) y) &&
   ((match kidA 75 ((i * 4 + 2) % 4) with | none => PV.flatB (pL x.subs) | some y => g (pL x.subs) y) && ((match kidA 75 ((i * 4 + 3) % 4) with | none => PV.flatB (.str x.value) | some y => g (.str x.value) y) && flatL g 4 75 (i * 4 + 4) (encC t))))) = true
  rw [show i * 4 % 4 = 0 by omega, show (i * 4 + 1) % 4 = 1 by omega, show (i * 4 + 2) % 4 = 2 by omega, show (i * 4 + 3) % 4 = 3 by omega, h0, h1, h2, h3, show i * 4 + 4 = (i + 1) * 4 by omega, ih]
  have := hg x.subs.length x.subs
  have e : g (pL x.subs) (1, 9) = true := this
  simp only [e, PV.flatB, Bool.and_true]
theorem jux (l : List ChT) : flatK 4 4 75 (encC l) = true := flatC _ (fun n l => flatS _ l 0) l 0
theorem juj (n : Nat) (l : List ChT) (c : Int) : IV.ownB (IV.tup [IV.cv (.dls 4 75 n (encC l)), cI c]) = true := by
 show (flatK 4 4 75 (encC l) && (true && true)) = true
 rw [jux]
 rfl
theorem jsa {kind : Int} {b : TblT} {l : List ByteArray} (hb : shTb b) (hl : shL l) : ∀ cs : List ByteArray, (∀ c ∈ cs, c.size ≤ 1048576) → ∀ x ∈ chIs kind b l cs, shC x ∧ x.subs.length ≤ 4
 | [], _, x, hx => by cases hx
 | c :: cs, hc, x, hx => by
  rcases nqD.1 (show x ∈ chI kind b l c ++ chIs kind b l cs from hx) with hx | hx
  ·unfold chI at hx
   cases he : ((cellX b l c).toList == []) with
   | true => rw [he] at hx; cases hx
   | false =>
    rw [he] at hx
    obtain rfl := List.mem_singleton.1 hx
    have hm : ∀ n, (l.getD n ⟨#[]⟩).size ≤ 1048576 := fun n => by
     by_cases hn : n < l.length
     ·rw [List.getD_eq_getElem?_getD, List.getElem?_eq_getElem hn]
      exact hl.2 _ (List.getElem_mem hn)
     ·rw [List.getD_eq_getElem?_getD, List.getElem?_eq_none (by omega)]
      exact Nat.zero_le _
    have hh : (l.headD ⟨#[]⟩).size ≤ 1048576 := by
     cases l with
     | nil => exact Nat.zero_le _
     | cons y r => exact hl.2 _ (List.mem_cons_self ..)
    refine ⟨⟨hb.2.1, ⟨(by show 4 ≤ 1048576; omega), fun y hy => ?_⟩, Nat.zero_le _⟩, Nat.le_refl _⟩
    rcases List.mem_cons.1 hy with rfl | hy
    ·show 1 ≤ 1048576; omega
    rcases List.mem_cons.1 hy with rfl | hy
    ·exact hc _ (List.mem_cons_self ..)
    rcases List.mem_cons.1 hy with rfl | hy
    ·exact hm _
    ·obtain rfl := List.mem_singleton.1 hy
     exact hh
  ·exact jsa hb hl cs (fun d hd => hc d (List.mem_cons_of_mem _ hd)) x hx
theorem jqi : ∀ (l : List ChT) (k : Int), (∀ x ∈ l, x.subs.length ≤ 4) → mkChE k l ≤ k + 7 * l.length
 | [], k, _ => by show k ≤ _; simp
 | x :: t, k, h => by
  have h1 := h x (List.mem_cons_self ..)
  have ih := jqi t (k + 3 + (x.subs.length : Int)) fun y hy => h y (List.mem_cons_of_mem _ hy)
  show mkChE (k + 3 + (x.subs.length : Int)) t ≤ _
  rw [nqH]
  omega
theorem jpe : ∀ (l : List ChT) (k : Int), (∀ x ∈ l, shC x) → ∀ x ∈ mkChs k l, shC x
 | [], _, _, x, hx => by cases hx
 | y :: t, k, h, x, hx => by
  rcases List.mem_cons.1 hx with rfl | hx
  ·have hy := h y (List.mem_cons_self ..)
   have a := jhS (k + 1)
   have b := jhS (k + 2 + y.subs.length)
   refine ⟨?_, jtn hy.2.1 _, ?_⟩
   ·show (mkV (k + 1)).size ≤ 1048576
    omega
   ·show (mkV (k + 2 + y.subs.length)).size ≤ 1048576
    omega
  ·exact jpe t _ (fun z hz => h z (List.mem_cons_of_mem _ hz)) x hx
theorem jrQ {l : List ByteArray} (h : shLw l) : isE pL shLw (.sl l.length (l.map .str)) = true := ja9 (enc := pL) h
theorem jr6 {S I : Entry} (h1 : jab Tryz.prog 37 S) (h2 : jab Tryz.prog 38 I) : jaf Tryz.prog (sjb S I) := ⟨jvf, jug, jvB, juW, js4, ju9, h1, h2, jq8, jsz, js8, jsQ, jsJ, jta, jtl, jsw, js1, trivial⟩
theorem jtg {t : List NodeT} {b : TblT} {l : List ByteArray} (hb : shTb b) (hl : shL l) (h : insC t b l = 0) : shCs (insX b l) ∧ (∀ x ∈ insX b l, x.subs.length ≤ 4) ∧ (insX b l).length ≤ 1048576 := by
 obtain ⟨_, hB, hR, _, _⟩ := jjK h
 obtain ⟨f1, f2, f3, f4, f5⟩ := jb5 hB hR
 obtain ⟨x0, r0, hxr⟩ := jgV f2
 have hk : (fstS l).size ≤ 1048576 := by
  rw [jde, hxr]
  exact hl.2 x0 (by rw [hxr]; exact List.mem_cons_self ..)
 have hS : shC (⟨1, b.glob, [⟨#[114]⟩, fstS l], pkV l⟩ : ChT) := ⟨hb.2.1, ⟨(by show 2 ≤ 1048576; omega), fun y hy => by
  rcases List.mem_cons.1 hy with rfl | hy
  ·show 1 ≤ 1048576; omega
  ·obtain rfl := List.mem_singleton.1 hy
   exact hk⟩, jhe (jeR f4) f3⟩
 have hc := jsa (kind := 1) hb hl b.idxs hb.2.2.2.2
 have hn := jeL 1 b l b.idxs
 have hi : b.idxs.length < 5 := by
  unfold tblB at hB
  obtain ⟨hB, hi⟩ := andE hB
  obtain ⟨hB, _⟩ := andE hB
  obtain ⟨hB, _⟩ := andE hB
  obtain ⟨hB, h5⟩ := andE hB
  obtain ⟨_, h1⟩ := andE hB
  have h5 := nqI h5
  have h1 := nqI h1
  have := jgS b.cols b.idxs 0 hi (by omega)
  omega
 rw [jkq]
 refine ⟨⟨?_, fun x hx => ?_⟩, fun x hx => ?_, ?_⟩
 ·rw [nqH]; omega
 ·rcases List.mem_cons.1 hx with rfl | hx
  ·exact hS
  ·exact (hc x hx).1
 ·rcases List.mem_cons.1 hx with rfl | hx
  ·show 2 ≤ 4; omega
  ·exact (hc x hx).2
 ·rw [nqH]; omega
theorem jsM (t : List NodeT) (b : TblT) (l : List ByteArray) (ht : shTw t) (hb : shTbw b) (hl : shLw l) : q_sjA brC t b l = some (cB true, []) ∨ q_sjB brC t b l = some (cB true, []) := by
 have iTw := js3 ht
 have iTbw := jrl hb
 have aT := jbt t
 have aTb := jap b
 have k0 : inK 1048576 = true := jdA (by omega) (by omega)
 by_cases h1 : szTr t 1048576 < 0
 ·left
  have tree := jeW t b l
  revert tree; try delta zzaz7; intro tree
  revert tree; try delta zzaz6; intro tree
  revert tree; try delta zzaz5; intro tree
  revert tree; try delta zzaz4; intro tree
  revert tree; try delta zzaz3; intro tree
  revert tree; try delta zzaz2; intro tree
  revert tree; try delta zzaz1; intro tree
  revert tree; try delta zzaz0; intro tree
  simp only [isT, asT, isTw, iTw, aT, k0, dT h1, Bool.and_true, brTc, brFc] at tree
  exact tree.trans rfl
 have d1 : decide (szTr t 1048576 < 0) = false := dF h1
 obtain ⟨shT_t, hle⟩ := jtV (l := t) (k := 1048576) (by omega) (by omega)
 have k1 : inK (szTr t 1048576) = true := jdA (by omega) (by omega)
 have hmk := juo (l := t) (k := 1048576) (by omega) (by omega)
 by_cases h2 : szTb b (szTr t 1048576) < 0
 ·left
  have tree := jeW t b l
  revert tree; try delta zzaz7; intro tree
  revert tree; try delta zzaz6; intro tree
  revert tree; try delta zzaz5; intro tree
  revert tree; try delta zzaz4; intro tree
  revert tree; try delta zzaz3; intro tree
  revert tree; try delta zzaz2; intro tree
  revert tree; try delta zzaz1; intro tree
  revert tree; try delta zzaz0; intro tree
  simp only [isT, asT, isTb, asTb, isTw, isTbw, iTw, aT, k0, d1, iTbw, aTb, k1, dT h2, Bool.and_true, Bool.true_and, brTc, brFc] at tree
  exact tree.trans rfl
 have d2 : decide (szTb b (szTr t 1048576) < 0) = false := dF h2
 obtain ⟨shT_b, hle2⟩ := jtm (b := b) (k := szTr t 1048576) (by omega) (by omega)
 have iLw := jrQ hl
 have aLw := jad l
 have k2 : inK (szTb b (szTr t 1048576)) = true := jdA (by omega) (by omega)
 by_cases h3 : szRw l (szTb b (szTr t 1048576)) < 0
 ·left
  have tree := jeW t b l
  revert tree; try delta zzaz7; intro tree
  revert tree; try delta zzaz6; intro tree
  revert tree; try delta zzaz5; intro tree
  revert tree; try delta zzaz4; intro tree
  revert tree; try delta zzaz3; intro tree
  revert tree; try delta zzaz2; intro tree
  revert tree; try delta zzaz1; intro tree
  revert tree; try delta zzaz0; intro tree
  simp only [isT, asT, isTb, asTb, isTw, isTbw, isLw, isL, asL, iLw, aLw, iTw, aT, k0, d1, iTbw, aTb, k1, d2, k2, dT h3, Bool.and_true, Bool.true_and, brTc, brFc] at tree
  exact tree.trans rfl
 have d3 : decide (szRw l (szTb b (szTr t 1048576)) < 0) = false := dF h3
 obtain ⟨shL_l, _⟩ := jsy (l := l) (k := szTb b (szTr t 1048576)) (by omega) (by omega)
 have iR := jai shL_l
 have eR : holds (l = l) = true := jaj rfl
 have m5 : mrkB (mkNdE 1 t + (b.cols.length : Int) + (b.idxs.length : Int)) = true := jn2 (by have := jeP t 1; omega) (by have h1 := shT_b.2.2.1.1; have h2 := shT_b.2.2.2.1; omega)
 have iT := jiN shT_t
 have iTb := jbi shT_b
 have iNs := jbe shT_t
 have aNs := jas t
 have eT : holds (t = t) = true := jaj rfl
 have eB : holds (b = b) = true := jaj rfl
 have m1 : mrkB 1 = true := jn2 (by omega) (by omega)
 have m2 : holds (mkNdE 1 t ≤ 800000000) = true := jaj (by omega)
 have hge := jeP t 1
 have m3 : decide (1 ≤ mkNdE 1 t) = true := dT hge
 have iC := jai shT_b.2.2.1
 have iI := jai shT_b.2.2.2
 have aC := jad b.cols
 have aI' := jad b.idxs
 have m4 : decide (mkNdE 1 t + (b.cols.length : Int) + (b.idxs.length : Int) < 0) = false := dF (by omega)
 have hT : holds True = true := jaj trivial
 have m6 : decide (mkNdE 1 t + (b.cols.length : Int) + (b.idxs.length : Int) + (l.length : Int) < 0) = false := dF (by omega)
 cases hc : (insC t b l == 0) with
 | true =>
  left
  have tree := jeW t b l
  revert tree; try delta zzaz7; intro tree
  revert tree; try delta zzaz6; intro tree
  revert tree; try delta zzaz5; intro tree
  revert tree; try delta zzaz4; intro tree
  revert tree; try delta zzaz3; intro tree
  revert tree; try delta zzaz2; intro tree
  revert tree; try delta zzaz1; intro tree
  revert tree; try delta zzaz0; intro tree
  obtain ⟨hX, hX4, hXl⟩ := jtg shT_b shL_l (eq_of_beq hc)
  have eL : holds (insX b l = insX b l) = true := jaj rfl
  obtain ⟨z, hz⟩ : ∃ z, insX b l = z := ⟨_, rfl⟩
  rw [hz] at hX hX4 hXl eL
  have hm : shCs (mkChs 1 z) := ⟨by rw [jdC]; exact hX.1, jpe z 1 hX.2⟩
  have eM : holds (mkChs 1 z = mkChs 1 (mkChs 1 z)) = true := jaj (jgj _ _).symm
  have iL := jd3 hX
  have aL := jbu z
  have iM := jd3 hm
  have aM := jbu (mkChs 1 z)
  rw [jdC] at iM aM
  have ow := juj z.length z 0
  have hcg := jeX z 1
  have hcl := jqi z 1 hX4
  have c1 : holds (mkChE 1 z ≤ 800000000) = true := jaj (by omega)
  have c2 : decide (mkChE 1 z < 0) = false := dF (by omega)
  have n1 : (mkChE 1 z != mkChE 1 z) = false := bne_self_eq_false _
  simp only [isTw, isTbw, isT, asT, isTb, asTb, isNs, asNs, isL, asL, isCs, asCs, iTw, aT, k0, d1, iTbw, aTb, k1, d2, iT, iTb, iNs, aNs, eT, eB, m1, m2, m3, iC, iI, aC, aI', m4, isLw, iLw, aLw, d2, k2, d3, iR, eR, m5, m6, hc, hz, eL, eM, iL, aL, iM, aM, ow, jdC, jlH, hT, c1, c2, n1, Bool.and_true, Bool.true_and, Bool.not_true, Bool.not_false, beq_self_eq_true, brTc, brFc] at tree
  exact tree.trans rfl
 | false =>
  right
  have tree := jqK t b l
  revert tree; try delta zzba4; intro tree
  revert tree; try delta zzba3; intro tree
  revert tree; try delta zzba2; intro tree
  revert tree; try delta zzba1; intro tree
  revert tree; try delta zzba0; intro tree
  have s0 : shCs [] := ⟨Nat.zero_le _, fun _ h => by cases h⟩
  have i0 : isCs (PV.sl 0 []) = true := jd3 s0
  have a0 : asCs (PV.sl 0 []) = [] := jbu []
  have e0 : holds (([] : List ChT) = mkChs 1 []) = true := jaj rfl
  have n0 : (mkChE 1 [] != 1) = false := by decide
  have c1 : holds (mkChE 1 [] ≤ 800000000) = true := jaj (by decide)
  have c2 : decide (mkChE 1 [] < 0) = false := by decide
  have nn : (insC t b l != insC t b l) = false := bne_self_eq_false _
  simp only [isTw, isTbw, isT, asT, isTb, asTb, isNs, asNs, isL, asL, isCs, asCs, iTw, aT, k0, d1, iTbw, aTb, k1, d2, iT, iTb, iNs, aNs, eT, eB, m1, m2, m3, iC, iI, aC, aI', m4, isLw, iLw, aLw, d2, k2, d3, iR, eR, m5, m6, hc, i0, a0, e0, n0, c1, c2, nn, jcm, hT, Bool.and_true, Bool.true_and, Bool.not_true, Bool.not_false, beq_self_eq_true, brTc, brFc] at tree
  exact tree.trans rfl
theorem jsi {S I : Entry} (h : jaf Tryz.prog (sjb S I)) {t : List NodeT} {b : TblT} {l : List ByteArray} (hq : evB brC Tryz.prog (sjb S I) jlm LO0 Tryz.f7 [cP (pT t), cP (pTb b), cP (.agg [pL l])] = some (cB true, [])) : jax Tryz.prog 7 ([pT t, pTb b, .agg [pL l]].map fun p => .cv (.pv p)) (.cv (.pv (.bool true))) [] :=
 jj2 mix (jhf (l := sjb S I) h) (O := OL jlm) (LO := LO0) ⟨Tryz.func7, by kernel_rfl, by kernel_rfl⟩ (by kernel_rfl) rfl (jam (by kernel_rfl)) hq
theorem FnExactInsertRow_walk (v : Value) (t : List NodeT) (v' : Value) (b : TblT) (v'' : Value) (l : List ByteArray) (w : World) (hv : PRep w (ja4 w) v (pT t)) (ht : shTw t) (hv' : PRep w (ja4 w) v' (pTb b)) (hb : shTbw b) (hv'' : PRep w (ja4 w) v'' (.agg [pL l])) (hl : shLw l) (hgl : Gl w (ja4 w)) :
  Calls Tryz.prog 7 #[v, v', v''] w fun e w' => e = .returned (.bool true) ∧ Below w.heap.size w w' := by
 have hc : jax Tryz.prog 7 ([pT t, pTb b, .agg [pL l]].map fun p => .cv (.pv p)) (.cv (.pv (.bool true))) [] := by
  rcases jsM t b l ht hb hl with h | h
  ·exact jsi (jr6 jrv jty) h
  ·exact jsi (jr6 jqA jt3) h
 exact hc.lawTop (w := w) (vals := [v, v', v'']) (PReps.cons hv (PReps.cons hv' (PReps.cons hv'' (PReps.nil _ _)))) hgl
end
section
end
end
end Go.Proofs.YtbeebeamdjbkmaaGreatDoor
