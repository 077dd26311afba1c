import Derived.Test.YtbeebeamdjbkmaaGreatDoorXXh
import Derived.Test.YtbeebeamdjbkmaaGreatDoorXXi
import Derived.Laws.Externs
import Derived.WalkKit
import Derived.Lib.Walk
import Derived.Lib.SliceRun
import Derived.OwnWalk
import Derived.Laws.Cover3
import Derived.Test.YtbeebeamdjbkmaaGreatDoorXXg
import Derived.Test.YtbeebeamdjbkmaaGreatDoorXXe
import Derived.Test.YtbeebeamdjbkmaaGreatDoorXXf
namespace Go.Proofs.YtbeebeamdjbkmaaGreatDoor
noncomputable section
set_option linter.unusedVariables false
set_option linter.unusedSimpArgs false
set_option maxRecDepth 100000
section
open Go.RowKit
def rwN (b : TblT) (x : NodeT) : Bool := (x.name.toList == b.glob.toList) && (decide (x.subs.length = 2) && ((x.subs.headD ⟨#[]⟩).toList == [114]))
def noR (b : TblT) (x : NodeT) : Bool := !rwN b x
def keepR (t : List NodeT) (b : TblT) : List NodeT := t.filter fun x => !noR b x
def q_isR (br : Br) (b : TblT) (x : NodeT) := evB br Tryz.prog [] [] LO0 Tryz.f111 [cP (pTb b), cP (pN x)]
def E_isR : Entry := fun ivs => match ivs with
 | [.cv (.pv p), .cv (.pv q)] => [(isTb p && isN q, cB (rwN (asTb p) (asN q)), [])]
 | _ => []
def scb1 : List (FuncId × Entry) := [(111, E_isR)]
abbrev rcl (b : TblT) : PV := .clo 110 [.ref [.str b.name, .str b.glob, pL b.cols, pL b.idxs]]
def q_rn1 (br : Br) (x : NodeT) (b : TblT) := evB br Tryz.prog scb1 [] LO0 Tryz.f110 [cP (pN x), cP (.ref [.str b.name, .str b.glob, pL b.cols, pL b.idxs])]
def E_rn1 : Entry := fun ivs => match ivs with
 | [.cv (.pv p), .cv (.pv (.ref [.str s, .str g, q, r]))] => [(isN p && isTb (.agg [.str s, .str g, q, r]), cB (noR (asTb (.agg [.str s, .str g, q, r])) (asN p)), [])]
 | _ => []
def scb2 : List (FuncId × Entry) := (110, E_rn1) :: scb1
def goIdR (t : List NodeT) (b : TblT) : Nat := (t.takeWhile fun x => !noR b x).length
abbrev jhX : List (Nat × List Nat × List Nat) := [(2, [0, 1, 7, 8], [4])]
def jfG : LoopT := fun _ ls => match ls with
 | [(.pv p, none), (.pv (.clo f [.ref [.str s, .str g, q, r]]), none), (.pv (.int .i64 n), none), (.pv (.int .i64 i), none)] =>
  [(isNs p && isTb (.agg [.str s, .str g, q, r]) && Nat.beq f 110 && (n == ((asNs p).length : Int)) && (i == 0) && decide (goIdR (asNs p) (asTb (.agg [.str s, .str g, q, r])) < (asNs p).length), .ret, [aI (goIdR (asNs p) (asTb (.agg [.str s, .str g, q, r])))]),
   (isNs p && isTb (.agg [.str s, .str g, q, r]) && Nat.beq f 110 && (n == ((asNs p).length : Int)) && (i == 0), .exit 0, [aX])]
 | _ => []
def jvc (br : Br) (t : List NodeT) (b : TblT) (i : Int) := rdB br Tryz.prog scb2 jhX jfG Tryz.f112 2 [] [aP (pNs t), aP (rcl b), aI t.length, aI i]
def juy (br : Br) (t : List NodeT) (b : TblT) := evB br Tryz.prog scb2 jhX jfG Tryz.f112 [cP (pNs t), cP (rcl b)]
def E_IdxR : Entry := fun ivs => match ivs with
 | [.cv (.pv p), .cv (.pv (.clo f [.ref [.str s, .str g, q, r]]))] => [(isNs p && isTb (.agg [.str s, .str g, q, r]) && Nat.beq f 110, cI (if goIdR (asNs p) (asTb (.agg [.str s, .str g, q, r])) < (asNs p).length then goIdR (asNs p) (asTb (.agg [.str s, .str g, q, r])) else -1), [])]
 | _ => []
def scb3 : List (FuncId × Entry) := (112, E_IdxR) :: scb2
abbrev jd5 : List (Nat × List Nat × List Nat) := [(1000000, [38], []), (5, [0, 1, 5, 6], [0, 5])]
def jdp : LoopT := fun _ ls => match ls with
 | [(.own x, some (.lst 3 e n l true)), (.pv (.clo f [.ref [.str s, .str g, q, r]]), none), (.pv (.int .i64 i), none), (.pv (.int .i64 j), none)] =>
  [(isNs (.sl n l) && isTb (.agg [.str s, .str g, q, r]) && Nat.beq f 110 && Nat.beq e 70 && Nat.beq x 0 && (i == (goIdR (asNs (.sl n l)) (asTb (.agg [.str s, .str g, q, r])) : Int)) && (j == ((goIdR (asNs (.sl n l)) (asTb (.agg [.str s, .str g, q, r])) : Int) + 1)) && decide (goIdR (asNs (.sl n l)) (asTb (.agg [.str s, .str g, q, r])) < (asNs (.sl n l)).length),
   .exit 0, [aM 0 3 70 n (encN (keepR (asNs (.sl n l)) (asTb (.agg [.str s, .str g, q, r])) ++ (asNs (.sl n l)).drop (keepR (asNs (.sl n l)) (asTb (.agg [.str s, .str g, q, r]))).length)), aI (keepR (asNs (.sl n l)) (asTb (.agg [.str s, .str g, q, r]))).length])]
 | _ => []
def juF (br : Br) (u : List NodeT) (b : TblT) (i j : Int) := rdB br Tryz.prog scb3 jd5 jdp Tryz.f108 5 [] [aM 0 3 70 u.length (encN u), aP (rcl b), aI i, aI j]
def jvd (br : Br) (t : List NodeT) (b : TblT) := evB br Tryz.prog scb3 jd5 jdp Tryz.f108 [.cv (lN t), cP (rcl b)]
def jtP (br : Br) (b : TblT) := evB br Tryz.prog scb3 jd5 jdp Tryz.f108 [cP (.sl 0 []), cP (rcl b)]
def E_DelR : Entry := fun ivs => match ivs with
 | [.cv (.lst 3 e n l true), .cv (.pv (.clo f [.ref [.str s, .str g, q, r]]))] =>
  [(isNs (.sl n l) && isTb (.agg [.str s, .str g, q, r]) && Nat.beq f 110 && Nat.beq e 70 && decide (goIdR (asNs (.sl n l)) (asTb (.agg [.str s, .str g, q, r])) < (asNs (.sl n l)).length), cP (pNs (keepR (asNs (.sl n l)) (asTb (.agg [.str s, .str g, q, r])))), []),
   (isNs (.sl n l) && isTb (.agg [.str s, .str g, q, r]) && Nat.beq f 110 && Nat.beq e 70, .cv (.lst 3 70 n l true), [])]
 | [.cv (.pv (.sl 0 [])), .cv (.pv (.clo f [.ref [.str s, .str g, q, r]]))] => [(isTb (.agg [.str s, .str g, q, r]) && Nat.beq f 110, cP (.sl 0 []), [])]
 | _ => []
def juA (br : Br) (x : NodeT) (t : List NodeT) := evB br Tryz.prog [] [(1000000, [5, 7], [])] LO0 Tryz.f109 [cP (.sl (t.length + 1) (.str x.name :: .sl x.subs.length (x.subs.map .str) :: .str x.value :: encN t))]
def E_CloN1 : Entry := fun ivs => match ivs with | [.cv (.pv p)] => [(isNs p && decide (1 ≤ (asNs p).length), .cv (.lst 3 70 (asNs p).length (encN (asNs p)) true), [])] | _ => []
def E_CloN0 : Entry := fun ivs => match ivs with | [.cv (.pv (.sl n l))] => [(Nat.beq n 0 && nilB l, cP (.sl 0 []), [])] | _ => []
def E_CloN : Entry := fun ivs => E_CloN0 ivs ++ E_CloN1 ivs
def scb4 : List (FuncId × Entry) := (108, E_DelR) :: (109, E_CloN) :: scb3
def jtN (br : Br) (t : List NodeT) (b : TblT) := evB br Tryz.prog scb4 [(1000001, [144], [])] LO0 Tryz.f78 [cP (pT t), cP (pTb b)]
def E_rowNs : Entry := fun ivs => match ivs with
 | [.cv (.pv p), .cv (.pv q)] => [(isT p && isTb q, cP (pNs (keepR (asT p) (asTb q))), [])]
 | _ => []
def jsj (br : Br) (b : TblT) (k v : ByteArray) := evB br Tryz.prog pbb4 [(1000000, [10, 20], [23, 27, 33]), (2000016, [8, 0, 17], [])] LO0 Tryz.f98 [cP (pTb b), cS k, cS v]
def E_unpM : Entry := fun ivs => match ivs with
 | [.cv (.pv p), .cv (.pv (.str k)), .cv (.pv (.str v))] =>
  [(isTb p && decide (k.size ≤ 50000) && decide (v.size ≤ 50000) && tblB (asTb p) && unpB (asTb p) k v, .tup [.agg [.lst 1 9 (jav (asTb p) k v).length ((jav (asTb p) k v).map .str) true], cI 0], []),
   (isTb p && decide (k.size ≤ 50000) && decide (v.size ≤ 50000) && tblB (asTb p), .tup [.agg [.pv .nils], cI 14], [])]
 | _ => []
def nodR (l : List NodeT) : Bool := l.all fun x => decide (x.subs.length = 2) && (decide ((x.subs.getD 1 ⟨#[]⟩).size ≤ 24) && decide (x.value.size ≤ 64))
abbrev bxTb (slot : Nat) (b : TblT) : AV × Option Ob := aBx slot [.pv (.str b.name), .pv (.str b.glob), .pv (pL b.cols), .pv (pL b.idxs)]
abbrev jlb : List (Nat × List Nat × List Nat) := [(3, [2, 3, 5, 6], [5])]
abbrev aFn (slot : Nat) (l : List NodeT) : AV × Option Ob := (.own (4096 * slot), some (.lst 3 70 l.length (encN l) false))
def jhi (ls : LS) : List (Bool × Ex × LS) := match ls with
 | [(.ptr y 0, some (.box [.pv p])), (.ptr x 0, some (.box [.pv (.str s), .pv (.str g), .pv q, .pv r])), (.own z, some (.lst 3 e n l false)), (.pv (.int .i64 i), none)] =>
  [(isTb (.agg [.str s, .str g, q, r]) && isNs p && Nat.beq y 8192 && Nat.beq x 12288 && Nat.beq z 20480 && Nat.beq e 70 && Nat.beq n 0 && nilB l && (i == 0), .exit 0, [aFn 5 (keepR (asNs p) (asTb (.agg [.str s, .str g, q, r])))])]
 | _ => []
def jk3 : LoopT := fun k ls => bif Nat.beq k 3 then jhi ls else []
def r_lns (br : Br) (t : List NodeT) (b : TblT) (u : List NodeT) (i : Int) := rdB br Tryz.prog [] jlb jk3 Tryz.f75 3 [] [aBx 2 [.pv (pNs t)], bxTb 3 b, aFn 5 u, aI i]
def q_lns (br : Br) (t : List NodeT) (b : TblT) := evB br Tryz.prog [] jlb jk3 Tryz.f75 [cP (pT t), cP (pTb b)]
end
section
theorem jiv (u : List NodeT) (b : TblT) (i : Int) (j : Int) : juF brC u b i j =
 brC (decide (j < (↑(List.length u) : Int)))
 (brC (decide (0 ≤ j) && decide (j < (↑(List.length u) : Int)))
 (brC (Nat.ble (Int.toNat j * 3) (List.length (encN u)) && (Nat.ble 3 (List.length (List.drop (Int.toNat j * 3) (encN u))) && (PV.isStr (List.headD (List.drop (Int.toNat j * 3) (encN u)) PV.nilp) && (PV.isSl (List.headD (List.tail (List.drop (Int.toNat j * 3) (encN u))) PV.nilp) && (PV.isStr (List.headD (List.tail (List.tail (List.drop (Int.toNat j * 3) (encN u)))) PV.nilp) && true && true) && true) && true) && true))
 (brC (isN (PV.agg [PV.str (PV.asStr (List.headD (List.drop (Int.toNat j * 3) (encN u)) PV.nilp)), PV.sl (PV.slN (List.headD (List.tail (List.drop (Int.toNat j * 3) (encN u))) PV.nilp)) (PV.slL (List.headD (List.tail (List.drop (Int.toNat j * 3) (encN u))) PV.nilp)), PV.str (PV.asStr (List.headD (List.tail (List.tail (List.drop (Int.toNat j * 3) (encN u)))) PV.nilp))]) && isTb (PV.agg [PV.str (TblT.name b), PV.str (TblT.glob b), pL (TblT.cols b), pL (TblT.idxs b)]))
 (brC (!noR (asTb (PV.agg [PV.str (TblT.name b), PV.str (TblT.glob b), pL (TblT.cols b), pL (TblT.idxs b)])) (asN (PV.agg [PV.str (PV.asStr (List.headD (List.drop (Int.toNat j * 3) (encN u)) PV.nilp)), PV.sl (PV.slN (List.headD (List.tail (List.drop (Int.toNat j * 3) (encN u))) PV.nilp)) (PV.slL (List.headD (List.tail (List.drop (Int.toNat j * 3) (encN u))) PV.nilp)), PV.str (PV.asStr (List.headD (List.tail (List.tail (List.drop (Int.toNat j * 3) (encN u)))) PV.nilp))])))
 (brC (decide (0 ≤ i) && decide (i < (↑(List.length u) : Int)))
 (brC (Nat.beq (List.length [PV.str (PV.asStr (List.headD (List.drop (Int.toNat j * 3) (encN u)) PV.nilp)), PV.sl (PV.slN (List.headD (List.tail (List.drop (Int.toNat j * 3) (encN u))) PV.nilp)) (PV.slL (List.headD (List.tail (List.drop (Int.toNat j * 3) (encN u))) PV.nilp)), PV.str (PV.asStr (List.headD (List.tail (List.tail (List.drop (Int.toNat j * 3) (encN u)))) PV.nilp))]) 3 && Nat.ble (Int.toNat i * 3 + 3) (List.length (encN u)))
 (some (.inl [(.own 0, some (.lst 3 70 (List.length u) (List.take (Int.toNat i * 3) (encN u) ++ [PV.str (PV.asStr (List.headD (List.drop (Int.toNat j * 3) (encN u)) PV.nilp)), PV.sl (PV.slN (List.headD (List.tail (List.drop (Int.toNat j * 3) (encN u))) PV.nilp)) (PV.slL (List.headD (List.tail (List.drop (Int.toNat j * 3) (encN u))) PV.nilp)), PV.str (PV.asStr (List.headD (List.tail (List.tail (List.drop (Int.toNat j * 3) (encN u)))) PV.nilp))] ++ List.drop (Int.toNat i * 3 + 3) (encN u)) true)), (.pv (PV.clo 110 [PV.ref [PV.str (TblT.name b), PV.str (TblT.glob b), PV.sl (List.length (TblT.cols b)) (List.map PV.str (TblT.cols b)), PV.sl (List.length (TblT.idxs b)) (List.map PV.str (TblT.idxs b))]]), none), (.pv (.int .i64 (IntKind.wrap .i64 (i + 1))), none), (.pv (.int .i64 (IntKind.wrap .i64 (j + 1))), none)]))
 none)
 none)
 (some (.inl [(.own 0, some (.lst 3 70 (List.length u) (encN u) true)), (.pv (PV.clo 110 [PV.ref [PV.str (TblT.name b), PV.str (TblT.glob b), PV.sl (List.length (TblT.cols b)) (List.map PV.str (TblT.cols b)), PV.sl (List.length (TblT.idxs b)) (List.map PV.str (TblT.idxs b))]]), none), (.pv (.int .i64 i), none), (.pv (.int .i64 (IntKind.wrap .i64 (j + 1))), none)])))
 none)
 none)
 none)
 (some (.inr (.exit 0, [(.own 0, some (.lst 3 70 (List.length u) (encN u) true)), (.pv (.int .i64 i), none)]))) := by kernel_rfl
theorem jmA (b : TblT) : jtP brC b =
 brC (isNs (PV.sl 0 []) && isTb (PV.agg [PV.str (TblT.name b), PV.str (TblT.glob b), pL (TblT.cols b), pL (TblT.idxs b)]) && Nat.beq 110 110)
 (brC ((if goIdR (asNs (PV.sl 0 [])) (asTb (PV.agg [PV.str (TblT.name b), PV.str (TblT.glob b), pL (TblT.cols b), pL (TblT.idxs b)])) < List.length (asNs (PV.sl 0 [])) then (↑(goIdR (asNs (PV.sl 0 [])) (asTb (PV.agg [PV.str (TblT.name b), PV.str (TblT.glob b), pL (TblT.cols b), pL (TblT.idxs b)]))) : Int) else -1) == -1)
 (some ((.cv (.pv (.sl 0 [])), [])))
 none)
 none := by kernel_rfl
theorem jjd (t : List NodeT) (b : TblT) (i : Int) : jvc brC t b i =
 brC (decide (i < (↑(List.length t) : Int)))
 (brC (decide (0 ≤ i) && decide (i < (↑(List.length t) : Int)))
 (brC (Nat.ble 3 (List.length (List.drop (Int.toNat i * 3) (encN t))) && (PV.isStr (List.headD (List.drop (Int.toNat i * 3) (encN t)) PV.nilp) && (PV.isSl (List.headD (List.tail (List.drop (Int.toNat i * 3) (encN t))) PV.nilp) && (PV.isStr (List.headD (List.tail (List.tail (List.drop (Int.toNat i * 3) (encN t)))) PV.nilp) && true && true) && true) && true) && true)
 (brC (isN (PV.agg [PV.str (PV.asStr (List.headD (List.drop (Int.toNat i * 3) (encN t)) PV.nilp)), PV.sl (PV.slN (List.headD (List.tail (List.drop (Int.toNat i * 3) (encN t))) PV.nilp)) (PV.slL (List.headD (List.tail (List.drop (Int.toNat i * 3) (encN t))) PV.nilp)), PV.str (PV.asStr (List.headD (List.tail (List.tail (List.drop (Int.toNat i * 3) (encN t)))) PV.nilp))]) && isTb (PV.agg [PV.str (TblT.name b), PV.str (TblT.glob b), pL (TblT.cols b), pL (TblT.idxs b)]))
 (brC (noR (asTb (PV.agg [PV.str (TblT.name b), PV.str (TblT.glob b), pL (TblT.cols b), pL (TblT.idxs b)])) (asN (PV.agg [PV.str (PV.asStr (List.headD (List.drop (Int.toNat i * 3) (encN t)) PV.nilp)), PV.sl (PV.slN (List.headD (List.tail (List.drop (Int.toNat i * 3) (encN t))) PV.nilp)) (PV.slL (List.headD (List.tail (List.drop (Int.toNat i * 3) (encN t))) PV.nilp)), PV.str (PV.asStr (List.headD (List.tail (List.tail (List.drop (Int.toNat i * 3) (encN t)))) PV.nilp))])))
 (some (.inr (.ret, [(.pv (.int .i64 i), none)])))
 (some (.inl [(.pv (.sl (List.length t) (encN t)), none), (.pv (PV.clo 110 [PV.ref [PV.str (TblT.name b), PV.str (TblT.glob b), PV.sl (List.length (TblT.cols b)) (List.map PV.str (TblT.cols b)), PV.sl (List.length (TblT.idxs b)) (List.map PV.str (TblT.idxs b))]]), none), (.pv (.int .i64 (↑(List.length t) : Int)), none), (.pv (.int .i64 (IntKind.wrap .i64 (i + 1))), none)])))
 none)
 none)
 none)
 (some (.inr (.exit 0, [(.bad, none)]))) := by kernel_rfl
theorem jpz (t : List NodeT) (b : TblT) : juy brC t b =
 brC (isNs (pNs t) && isTb (PV.agg [PV.str (TblT.name b), PV.str (TblT.glob b), pL (TblT.cols b), pL (TblT.idxs b)]) && Nat.beq 110 110 && (↑(List.length t) : Int) == (↑(List.length (asNs (pNs t))) : Int) && 0 == 0 && decide (goIdR (asNs (pNs t)) (asTb (PV.agg [PV.str (TblT.name b), PV.str (TblT.glob b), pL (TblT.cols b), pL (TblT.idxs b)])) < List.length (asNs (pNs t))))
 (some ((.cv (.pv (.int .i64 (↑(goIdR (asNs (pNs t)) (asTb (PV.agg [PV.str (TblT.name b), PV.str (TblT.glob b), pL (TblT.cols b), pL (TblT.idxs b)]))) : Int))), [])))
 (brC (isNs (pNs t) && isTb (PV.agg [PV.str (TblT.name b), PV.str (TblT.glob b), pL (TblT.cols b), pL (TblT.idxs b)]) && Nat.beq 110 110 && (↑(List.length t) : Int) == (↑(List.length (asNs (pNs t))) : Int) && 0 == 0)
 (some ((.cv (.pv (.int .i64 (Int.negSucc 0))), [])))
 none) := by kernel_rfl
def zzao0 (t : List NodeT) (b : TblT) := (PV.sl (List.length (asNs (PV.sl (List.length t) (encN t)))) (encN (asNs (PV.sl (List.length t) (encN t)))))
theorem jnb (t : List NodeT) (b : TblT) : jtN brC t b =
 brC (Nat.beq (List.length t) 0 && nilB (encN t))
 (brC (isTb (PV.agg [PV.str (TblT.name b), PV.str (TblT.glob b), pL (TblT.cols b), pL (TblT.idxs b)]) && Nat.beq 110 110)
 (some ((.cv (.pv (.sl 0 [])), [])))
 none)
 (brC (isNs (PV.sl (List.length t) (encN t)) && decide (1 ≤ List.length (asNs (PV.sl (List.length t) (encN t)))))
 (brC (isNs (zzao0 t b) && isTb (PV.agg [PV.str (TblT.name b), PV.str (TblT.glob b), pL (TblT.cols b), pL (TblT.idxs b)]) && Nat.beq 110 110 && Nat.beq 70 70 && decide (goIdR (asNs (zzao0 t b)) (asTb (PV.agg [PV.str (TblT.name b), PV.str (TblT.glob b), pL (TblT.cols b), pL (TblT.idxs b)])) < List.length (asNs (zzao0 t b))))
 (some ((.cv (.pv (.sl (List.length (keepR (asNs (zzao0 t b)) (asTb (PV.agg [PV.str (TblT.name b), PV.str (TblT.glob b), pL (TblT.cols b), pL (TblT.idxs b)])))) (encN (keepR (asNs (zzao0 t b)) (asTb (PV.agg [PV.str (TblT.name b), PV.str (TblT.glob b), pL (TblT.cols b), pL (TblT.idxs b)])))))), [])))
 (brC (isNs (zzao0 t b) && isTb (PV.agg [PV.str (TblT.name b), PV.str (TblT.glob b), pL (TblT.cols b), pL (TblT.idxs b)]) && Nat.beq 110 110 && Nat.beq 70 70)
 (some ((.cv (.lst 3 70 (List.length (asNs (PV.sl (List.length t) (encN t)))) (encN (asNs (PV.sl (List.length t) (encN t)))) true), [])))
 none))
 none) := by kernel_rfl
def zzap0 (x : NodeT) (b : TblT) := (PV.agg [PV.str (PV.asStr (List.headD [PV.str (TblT.name b), PV.str (TblT.glob b), pL (TblT.cols b), pL (TblT.idxs b)] PV.nilp)), PV.str (PV.asStr (List.headD [PV.str (TblT.glob b), pL (TblT.cols b), pL (TblT.idxs b)] PV.nilp)), PV.sl (PV.slN (List.headD [pL (TblT.cols b), pL (TblT.idxs b)] PV.nilp)) (PV.slL (List.headD [pL (TblT.cols b), pL (TblT.idxs b)] PV.nilp)), PV.sl (PV.slN (List.headD [pL (TblT.idxs b)] PV.nilp)) (PV.slL (List.headD [pL (TblT.idxs b)] PV.nilp))])
theorem jru (x : NodeT) (b : TblT) : q_rn1 brC x b =
 brC (isTb (zzap0 x b) && isN (PV.agg [PV.str (NodeT.name x), PV.sl (List.length (NodeT.subs x)) (List.map PV.str (NodeT.subs x)), PV.str (NodeT.value x)]))
 (some ((.cv (.pv (.bool !rwN (asTb (zzap0 x b)) (asN (PV.agg [PV.str (NodeT.name x), PV.sl (List.length (NodeT.subs x)) (List.map PV.str (NodeT.subs x)), PV.str (NodeT.value x)])))), [])))
 none := by kernel_rfl
def zzaq0 (b : TblT) (k : ByteArray) (v : ByteArray) := (PV.agg [PV.str (TblT.name b), PV.str (TblT.glob b), PV.sl (List.length (TblT.cols b)) (List.map PV.str (TblT.cols b)), PV.sl (List.length (TblT.idxs b)) (List.map PV.str (TblT.idxs b))])
def zzaq1 (b : TblT) (k : ByteArray) (v : ByteArray) := (PV.agg [PV.sl (1 + List.length (cutV v)) (PV.str k :: List.append._f [] PUnit.unit (List.map PV.str (cutV v)))])
theorem joC (b : TblT) (k : ByteArray) (v : ByteArray) : jsj brC b k v =
 brC (decide ((↑(List.length (TblT.cols b)) : Int) > 1))
 (brC (decide (ByteArray.size v ≤ 1048576) && holds (jkB { data := #[94] }))
 (brC (Nat.beq (List.length (List.map PV.str (cutV v))) (List.length (cutV v) * 1) && (decide (1 + List.length (cutV v) ≤ 140737488351232) && decide ((1 + List.length (cutV v)) * 16 ≤ 140737488355328)))
 (brC (isTb (zzaq0 b k v) && isRw (zzaq1 b k v) && decide (1 ≤ List.length (TblT.cols (asTb (zzaq0 b k v)))))
 (brC (!rowB (asTb (zzaq0 b k v)) (asRw (zzaq1 b k v)))
 (some ((.tup [.agg [.pv .nils], .cv (.pv (.int .i64 (Int.ofNat 14)))], [])))
 (brC (isRw (zzaq1 b k v) && decide (1 ≤ List.length (asRw (zzaq1 b k v))) && decide (List.length (packL (asRw (zzaq1 b k v))) ≤ 1048576))
 (brC (!ByteArray.toList (bs (packL (asRw (zzaq1 b k v)))) == ByteArray.toList v)
 (some ((.tup [.agg [.pv .nils], .cv (.pv (.int .i64 (Int.ofNat 14)))], [])))
 (some ((.tup [.agg [.lst 1 9 (1 + List.length (cutV v)) (PV.str k :: List.append._f [] PUnit.unit (List.map PV.str (cutV v))) true], .cv (.pv (.int .i64 (Int.ofNat 0)))], []))))
 none))
 none)
 none)
 none)
 (brC (isTb (zzaq0 b k v) && isRw (PV.agg [PV.sl 1 [PV.str k]]) && decide (1 ≤ List.length (TblT.cols (asTb (zzaq0 b k v)))))
 (brC (!rowB (asTb (zzaq0 b k v)) (asRw (PV.agg [PV.sl 1 [PV.str k]])))
 (some ((.tup [.agg [.pv .nils], .cv (.pv (.int .i64 (Int.ofNat 14)))], [])))
 (brC (isRw (PV.agg [PV.sl 1 [PV.str k]]) && decide (1 ≤ List.length (asRw (PV.agg [PV.sl 1 [PV.str k]]))) && decide (List.length (packL (asRw (PV.agg [PV.sl 1 [PV.str k]]))) ≤ 1048576))
 (brC (!ByteArray.toList (bs (packL (asRw (PV.agg [PV.sl 1 [PV.str k]])))) == ByteArray.toList v)
 (some ((.tup [.agg [.pv .nils], .cv (.pv (.int .i64 (Int.ofNat 14)))], [])))
 (some ((.tup [.agg [.lst 1 9 1 [PV.str k] true], .cv (.pv (.int .i64 (Int.ofNat 0)))], []))))
 none))
 none) := by kernel_rfl
def zzar0 (t : List NodeT) (b : TblT) (u : List NodeT) (i : Int) := (List.headD (List.tail (List.drop (Int.toNat i * 3) (encN t))) PV.nilp)
theorem jlA (t : List NodeT) (b : TblT) (u : List NodeT) (i : Int) : r_lns brC t b u i =
 brC (decide (i < (↑(List.length t) : Int)))
 (brC (decide (0 ≤ i) && decide (i < (↑(List.length t) : Int)))
 (brC (Nat.ble 3 (List.length (List.drop (Int.toNat i * 3) (encN t))) && (PV.isStr (List.headD (List.drop (Int.toNat i * 3) (encN t)) PV.nilp) && (PV.isSl (zzar0 t b u i) && (PV.isStr (List.headD (List.tail (List.tail (List.drop (Int.toNat i * 3) (encN t)))) PV.nilp) && true && true) && true) && true) && true)
 (brC (ByteArray.toList (PV.asStr (List.headD (List.drop (Int.toNat i * 3) (encN t)) PV.nilp)) == ByteArray.toList (TblT.glob b))
 (brC ((↑(PV.slN (zzar0 t b u i)) : Int) == 2)
 (brC (decide (0 ≤ 0) && decide (0 < (↑(PV.slN (zzar0 t b u i)) : Int)))
 (brC (Nat.blt 0 (List.length (List.drop 0 (PV.slL (zzar0 t b u i)))) && PV.isStr (List.headD (List.drop 0 (PV.slL (zzar0 t b u i))) PV.nilp) && true)
 (brC (ByteArray.toList (PV.asStr (List.headD (List.drop 0 (PV.slL (zzar0 t b u i))) PV.nilp)) == [Subtype.val ⟨ByteArray.get! { data := #[114] } 0, And.left (Iff.mp List.forall_mem_cons (List.attach._proof_1 [ByteArray.get! { data := #[114] } 0]))⟩])
 (brC (Nat.beq (List.length [PV.str (PV.asStr (List.headD (List.drop (Int.toNat i * 3) (encN t)) PV.nilp)), PV.sl (PV.slN (zzar0 t b u i)) (PV.slL (zzar0 t b u i)), PV.str (PV.asStr (List.headD (List.tail (List.tail (List.drop (Int.toNat i * 3) (encN t)))) PV.nilp))]) (1 * 3) && (decide (List.length u + 1 ≤ 140737488351232) && decide ((List.length u + 1) * 56 ≤ 140737488355328)))
 (some (.inl [(.ptr 8192 0, some (.box [.pv (.sl (List.length t) (encN t))])), (.ptr 12288 0, some (.box [.pv (.str (TblT.name b)), .pv (.str (TblT.glob b)), .pv (.sl (List.length (TblT.cols b)) (List.map PV.str (TblT.cols b))), .pv (.sl (List.length (TblT.idxs b)) (List.map PV.str (TblT.idxs b)))])), (.own 20480, some (.lst 3 70 (List.length u + 1) (encN u ++ [PV.str (PV.asStr (List.headD (List.drop (Int.toNat i * 3) (encN t)) PV.nilp)), PV.sl (PV.slN (zzar0 t b u i)) (PV.slL (zzar0 t b u i)), PV.str (PV.asStr (List.headD (List.tail (List.tail (List.drop (Int.toNat i * 3) (encN t)))) PV.nilp))]) false)), (.pv (.int .i64 (IntKind.wrap .i64 (i + 1))), none)]))
 none)
 (some (.inl [(.ptr 8192 0, some (.box [.pv (.sl (List.length t) (encN t))])), (.ptr 12288 0, some (.box [.pv (.str (TblT.name b)), .pv (.str (TblT.glob b)), .pv (.sl (List.length (TblT.cols b)) (List.map PV.str (TblT.cols b))), .pv (.sl (List.length (TblT.idxs b)) (List.map PV.str (TblT.idxs b)))])), (.own 20480, some (.lst 3 70 (List.length u) (encN u) false)), (.pv (.int .i64 (IntKind.wrap .i64 (i + 1))), none)])))
 none)
 none)
 (some (.inl [(.ptr 8192 0, some (.box [.pv (.sl (List.length t) (encN t))])), (.ptr 12288 0, some (.box [.pv (.str (TblT.name b)), .pv (.str (TblT.glob b)), .pv (.sl (List.length (TblT.cols b)) (List.map PV.str (TblT.cols b))), .pv (.sl (List.length (TblT.idxs b)) (List.map PV.str (TblT.idxs b)))])), (.own 20480, some (.lst 3 70 (List.length u) (encN u) false)), (.pv (.int .i64 (IntKind.wrap .i64 (i + 1))), none)])))
 (some (.inl [(.ptr 8192 0, some (.box [.pv (.sl (List.length t) (encN t))])), (.ptr 12288 0, some (.box [.pv (.str (TblT.name b)), .pv (.str (TblT.glob b)), .pv (.sl (List.length (TblT.cols b)) (List.map PV.str (TblT.cols b))), .pv (.sl (List.length (TblT.idxs b)) (List.map PV.str (TblT.idxs b)))])), (.own 20480, some (.lst 3 70 (List.length u) (encN u) false)), (.pv (.int .i64 (IntKind.wrap .i64 (i + 1))), none)])))
 none)
 none)
 (some (.inr (.exit 0, [(.own 20480, some (.lst 3 70 (List.length u) (encN u) false))]))) := by kernel_rfl
def zzas0 (t : List NodeT) (b : TblT) := (PV.agg [PV.str (TblT.name b), PV.str (TblT.glob b), pL (TblT.cols b), pL (TblT.idxs b)])
def zzas1 (t : List NodeT) (b : TblT) := (↑(List.length (keepR (asNs (PV.sl (List.length t) (encN t))) (asTb (zzas0 t b)))) : Int)
theorem jo7 (t : List NodeT) (b : TblT) : jvd brC t b =
 brC (isNs (PV.sl (List.length t) (encN t)) && isTb (zzas0 t b) && Nat.beq 110 110)
 (brC ((if goIdR (asNs (PV.sl (List.length t) (encN t))) (asTb (zzas0 t b)) < List.length (asNs (PV.sl (List.length t) (encN t))) then (↑(goIdR (asNs (PV.sl (List.length t) (encN t))) (asTb (zzas0 t b))) : Int) else -1) == -1)
 (some ((.cv (.lst 3 70 (List.length t) (encN t) true), [])))
 (brC (isNs (PV.sl (List.length t) (encN t)) && isTb (zzas0 t b) && Nat.beq 110 110 && Nat.beq 70 70 && Nat.beq 0 0 && (if goIdR (asNs (PV.sl (List.length t) (encN t))) (asTb (zzas0 t b)) < List.length (asNs (PV.sl (List.length t) (encN t))) then (↑(goIdR (asNs (PV.sl (List.length t) (encN t))) (asTb (zzas0 t b))) : Int) else -1) == (↑(goIdR (asNs (PV.sl (List.length t) (encN t))) (asTb (zzas0 t b))) : Int) && IntKind.wrap .i64 ((if goIdR (asNs (PV.sl (List.length t) (encN t))) (asTb (zzas0 t b)) < List.length (asNs (PV.sl (List.length t) (encN t))) then (↑(goIdR (asNs (PV.sl (List.length t) (encN t))) (asTb (zzas0 t b))) : Int) else -1) + 1) == (↑(goIdR (asNs (PV.sl (List.length t) (encN t))) (asTb (zzas0 t b))) : Int) + 1 && decide (goIdR (asNs (PV.sl (List.length t) (encN t))) (asTb (zzas0 t b)) < List.length (asNs (PV.sl (List.length t) (encN t)))))
 (brC (decide (0 ≤ (zzas1 t b)) && decide ((zzas1 t b) ≤ (↑(List.length t) : Int)) && decide ((↑(List.length t) : Int) ≤ (↑(List.length t) : Int)) && true)
 (brC (decide (0 ≤ 0) && decide (0 ≤ (zzas1 t b)) && decide ((zzas1 t b) ≤ (↑(List.length t) : Int)) && true && true)
 (some ((.cv (.pv (.sl (Int.toNat (zzas1 t b) - 0) (List.take ((Int.toNat (zzas1 t b) - 0) * 3) (List.drop (0 * 3) (List.take (Int.toNat (zzas1 t b) * 3) (encN (keepR (asNs (PV.sl (List.length t) (encN t))) (asTb (zzas0 t b)) ++ List.drop (List.length (keepR (asNs (PV.sl (List.length t) (encN t))) (asTb (zzas0 t b)))) (asNs (PV.sl (List.length t) (encN t))))) ++ List.flatten (List.replicate (List.length t - Int.toNat (zzas1 t b)) [PV.str { data := #[] }, PV.nils, PV.str { data := #[] }])))))), [])))
 none)
 none)
 none))
 none := by kernel_rfl
theorem joQ (x : NodeT) (t : List NodeT) : juA brC x t =
 brC (Nat.beq (List.length (PV.str (NodeT.name x) :: PV.sl (List.length (NodeT.subs x)) (List.map PV.str (NodeT.subs x)) :: PV.str (NodeT.value x) :: encN t)) ((List.length t + 1) * 3) && (decide (0 + (List.length t + 1) ≤ 140737488351232) && decide ((0 + (List.length t + 1)) * 56 ≤ 140737488355328)))
 (some ((.cv (.lst 3 70 (0 + (List.length t + 1)) (PV.str (NodeT.name x) :: PV.sl (List.length (NodeT.subs x)) (List.map PV.str (NodeT.subs x)) :: PV.str (NodeT.value x) :: encN t) true), [])))
 none := by kernel_rfl
theorem jrS (b : TblT) (x : NodeT) : q_isR brC b x =
 brC (ByteArray.toList (NodeT.name x) == ByteArray.toList (TblT.glob b))
 (brC ((↑(List.length (NodeT.subs x)) : Int) == 2)
 (brC (decide (0 ≤ 0) && decide (0 < (↑(List.length (NodeT.subs x)) : Int)))
 (brC (Nat.blt 0 (List.length (List.drop 0 (List.map PV.str (NodeT.subs x)))) && PV.isStr (List.headD (List.drop 0 (List.map PV.str (NodeT.subs x))) PV.nilp) && true)
 (some ((.cv (.pv (.bool (ByteArray.toList (PV.asStr (List.headD (List.drop 0 (List.map PV.str (NodeT.subs x))) PV.nilp)) == [Subtype.val ⟨ByteArray.get! { data := #[114] } 0, And.left (Iff.mp List.forall_mem_cons (List.attach._proof_1 [ByteArray.get! { data := #[114] } 0]))⟩]))), [])))
 none)
 none)
 (some ((.cv (.pv (.bool false)), []))))
 (some ((.cv (.pv (.bool false)), []))) := by kernel_rfl
theorem jrC (t : List NodeT) (b : TblT) : q_lns brC t b =
 brC (isTb (PV.agg [PV.str (TblT.name b), PV.str (TblT.glob b), pL (TblT.cols b), pL (TblT.idxs b)]) && isNs (pNs t) && Nat.beq 8192 8192 && Nat.beq 12288 12288 && Nat.beq 20480 20480 && Nat.beq 70 70 && Nat.beq 0 0 && nilB [] && 0 == 0)
 (some ((.cv (.lst 3 70 (List.length (keepR (asNs (pNs t)) (asTb (PV.agg [PV.str (TblT.name b), PV.str (TblT.glob b), pL (TblT.cols b), pL (TblT.idxs b)])))) (encN (keepR (asNs (pNs t)) (asTb (PV.agg [PV.str (TblT.name b), PV.str (TblT.glob b), pL (TblT.cols b), pL (TblT.idxs b)])))) false), [])))
 none := by kernel_rfl
end
section
open Go.RowKit Go.Lib
theorem jk4 (a : Option Addr) (n c : Nat) (w : World) : (binOp .eql 31 (.slice a n c) (.slice none 0 0)).run Tryz.prog w = .ok (.bool a.isNone) w := by
 simp only [binOp]
 simp [run_equal_slice_nil (P := Tryz.prog) w 31 70 a n c Tryz.underlying31]
set_option maxHeartbeats 2000000 in
set_option maxRecDepth 100000 in
theorem jrA (c : Nat) (w : World) : Calls Tryz.prog 109 #[.slice none 0 c] w fun e w' => ∃ a' c', e = .returned (.slice a' 0 c') ∧ Below w.heap.size w w' := by
 go_enter Tryz.func109, Tryz.ntmps109
 go_wp2
 rw [jk4]
 go_wp2
 go_ret
 exact ⟨_, _, rfl, Below.refl _ _⟩
set_option maxHeartbeats 2000000 in
set_option maxRecDepth 100000 in
theorem jow (a : Addr) (c : Nat) (w : World) : Calls Tryz.prog 109 #[.slice (some a) 0 c] w fun e w' => ∃ a' c', e = .returned (.slice a' 0 c') ∧ Below w.heap.size w w' := by
 go_enter Tryz.func109, Tryz.ntmps109
 go_wp2
 rw [jk4]
 go_wp2
 go_ret
 exact ⟨_, _, rfl, Below.alloc (B := w.heap.size) (a := w) (w := w) (Below.refl _ _) (Nat.le_refl _) _⟩
end
section
open Go.RowKit
theorem jjx {a b c : ByteArray} (h : strLt a b = true) (k : strLt b c = true) : strLt a c = true := by
 unfold strLt at h k ⊢
 rw [jcj] at h k ⊢
 exact jeL h k
theorem jjM {a b c : ByteArray} {x y z : List ByteArray} (h : locLt a x b y = true) (k : locLt b y c z = true) : locLt a x c z = true := by
 unfold locLt at h k ⊢
 rw [Bool.or_eq_true, nqE] at h k ⊢
 rcases h with h | ⟨h, h'⟩
 ·rcases k with k | ⟨k, k'⟩
  ·exact .inl (jjx h k)
  ·obtain rfl := jbL.1 k
   exact .inl h
 ·obtain rfl := jbL.1 h
  rcases k with k | ⟨k, k'⟩
  ·exact .inl k
  ·exact .inr ⟨k, jeG h' k'⟩
theorem jiT : ∀ (t : List NodeT) (p : Option NodeT), jb2 p t = true → (∀ x ∈ t, nodeB x = true) ∧ t.Pairwise (fun x y => ji8 x y = true) ∧ ∀ y, p = some y → ∀ x ∈ t, ji8 y x = true
 | [], _, _ => ⟨fun x h => (List.not_mem_nil h).elim, .nil, fun y _ x h => (List.not_mem_nil h).elim⟩
 | x :: t, p, h => by
  unfold jb2 at h
  rw [nqE, nqE] at h
  obtain ⟨⟨h1, h2⟩, h3⟩ := h
  obtain ⟨i1, i2, i3⟩ := jiT t (some x) h3
  refine ⟨fun y hy => ?_, List.pairwise_cons.2 ⟨i3 x rfl, i2⟩, fun y hy z hz => ?_⟩
  ·rcases List.mem_cons.1 hy with rfl | hy
   ·exact h1
   ·exact i1 y hy
  ·subst hy
   rcases List.mem_cons.1 hz with rfl | hz
   ·exact h2
   ·exact jjM h2 (i3 x rfl z hz)
theorem jr9 {t : List NodeT} (h : treeB t = true) : t.length ≤ 120 ∧ (∀ x ∈ t, nodeB x = true) ∧ t.Pairwise (fun x y => ji8 x y = true) := by
 unfold treeB at h
 rw [nqE] at h
 obtain ⟨h1, h2, _⟩ := jiT t none h.2
 exact ⟨nqI h.1, h1, h2⟩
def ownB (s : ByteArray) (x : NodeT) : Bool := sEq x.name s && decide (0 < x.subs.length)
end
section
open Go.RowKit
theorem tbI {b : TblT} (h : shTb b) : isTb (PV.agg [PV.str b.name, PV.str b.glob, pL b.cols, pL b.idxs]) = true := ja7 h
theorem tbA (b : TblT) : asTb (PV.agg [PV.str b.name, PV.str b.glob, pL b.cols, pL b.idxs]) = b := jan b
theorem jcb {s g : ByteArray} {q r : PV} (h : isTb (.agg [.str s, .str g, q, r]) = true) : ∃ b, s = b.name ∧ g = b.glob ∧ q = pL b.cols ∧ r = pL b.idxs ∧ shTb b := by
 obtain ⟨b, e, hb⟩ := jaz h
 unfold pTb at e
 injection e with e
 injection e with e1 e
 injection e1 with e1
 injection e with e2 e
 injection e2 with e2
 injection e with e3 e
 injection e with e4 e
 exact ⟨b, e1, e2, e3, e4, hb⟩
theorem brTc {R : Type} (x y : Option R) : brC true x y = x := rfl
theorem brFc {R : Type} (x y : Option R) : brC false x y = y := rfl
theorem jvm : jab Tryz.prog 111 E_isR := jac mix (tab := []) trivial (lp := []) (LO := LO0) ⟨Tryz.func111, by kernel_rfl, by kernel_rfl⟩ (by kernel_rfl) fun ivs res bxs h => by
 unfold E_isR at h
 split at h
 ·rename_i p q
  obtain ⟨hc, he⟩ := pick1 h
  cases he
  obtain ⟨k0, k1⟩ := andE hc
  obtain ⟨b, rfl, h_b⟩ := jaz k0
  obtain ⟨x, rfl, h_x⟩ := jag k1
  have e_b : asTb (pTb b) = b := jan b
  have e_x : asN (pN x) = x := jby x
  rw [e_b, e_x]
  refine ⟨jao (by kernel_rfl), ?_⟩
  have tree := jrS b x
  unfold rwN
  cases h1 : (x.name.toList == b.glob.toList) with
  | false => rw [h1] at tree; exact tree.trans rfl
  | true =>
   rw [h1] at tree
   cases hs : x.subs with
   | nil => rw [hs] at tree; exact tree.trans rfl
   | cons a t =>
    rw [hs] at tree
    by_cases h2 : (a :: t).length = 2
    ·have h3 : ((((a :: t).length : Nat) : Int) == 2) = true := by rw [h2]; rfl
     have h4 : (0 : Int) < (((a :: t).length : Nat) : Int) := by rw [h2]; decide
     rw [h3, dT h4] at tree
     rw [dT h2]
     exact tree.trans rfl
    ·have h3 : ((((a :: t).length : Nat) : Int) == 2) = false := beq_eq_false_iff_ne.2 (by omega)
     rw [h3] at tree
     rw [dF h2]
     exact tree.trans rfl
 ·cases h
theorem jpW : jad Tryz.prog scb1 := ⟨jvm, trivial⟩
theorem juB : jab Tryz.prog 110 E_rn1 := jac mix jpW (lp := []) (LO := LO0) ⟨Tryz.func110, by kernel_rfl, by kernel_rfl⟩ (by kernel_rfl) fun ivs res bxs h => by
 unfold E_rn1 at h
 split at h
 ·rename_i p s g q r
  obtain ⟨hc, he⟩ := pick1 h
  cases he
  obtain ⟨k0, k1⟩ := andE hc
  obtain ⟨x, rfl, h_x⟩ := jag k0
  obtain ⟨b, rfl, rfl, rfl, rfl, h_b⟩ := jcb k1
  have e_x : asN (pN x) = x := jby x
  rw [tbA, e_x]
  refine ⟨jao (by kernel_rfl), ?_⟩
  have tree := jru x b
  revert tree; try delta zzap0; intro tree
  have i1 := ja7 h_b
  have a1 := jan b
  have i2 := jfF h_x
  simp only [List.headD_cons, List.tail_cons, List.drop_succ_cons, List.drop_zero, PV.isStr, PV.asStr, PV.isSl, PV.slN, PV.slL, isTb, asTb, i1, a1, isN, i2, jby, Bool.and_true, Bool.true_and] at tree
  exact tree.trans rfl
 ·cases h
theorem jog : jad Tryz.prog scb2 := ⟨juB, jpW⟩
theorem jou (b : TblT) : goIdR [] b = 0 := rfl
theorem jgV {x : NodeT} {t : List NodeT} {b : TblT} (h : noR b x = true) : goIdR (x :: t) b = 0 := by
 unfold goIdR
 rw [List.takeWhile_cons, h]
 rfl
theorem jfP {x : NodeT} {t : List NodeT} {b : TblT} (h : noR b x = false) : goIdR (x :: t) b = goIdR t b + 1 := by
 unfold goIdR
 rw [List.takeWhile_cons, h]
 rfl
theorem jnK (t : List NodeT) (h : shT t) (b : TblT) (hx : shTb b) : ∀ (m i : Nat), m + i = t.length → LoopsTo (rdB brC Tryz.prog scb2 jhX jfG Tryz.f112 2 []) [aP (pNs t), aP (rcl b), aI t.length, aI i]
  (if goIdR (t.drop i) b + i < t.length then (.ret, [aI ((goIdR (t.drop i) b + i : Nat) : Int)]) else (.exit 0, [aX])) := by
 have hl := h.1
 intro m
 induction m with
 | zero =>
  intro i hm
  obtain rfl : i = t.length := by omega
  rw [List.drop_length, jou, if_neg (by omega)]
  refine .done _ _ ((jjd t b t.length).trans ?_)
  rw [dF (by omega)]
  rfl
 | succ m ih =>
  intro i hm
  have hi : i < t.length := by omega
  have hs := jet h hi
  have ih' := ih (i + 1) (by omega)
  have tree := jjd t b i
  have e2 := ja7 hx
  have e3 := jan b
  simp (disch := omega) only [dT, nqF, jaR t i hi, nqH, List.headD_cons, List.tail_cons, PV.isStr, PV.asStr, PV.isSl, PV.slN, PV.slL, ble3, wrap1, Bool.and_true, jfF hs, jby, e2, e3] at tree
  rw [nqK hi]
  cases hin : noR b t[i] with
  | true =>
   rw [hin] at tree
   rw [jgV hin, Nat.zero_add, if_pos hi]
   exact .done _ _ tree
  | false =>
   rw [hin] at tree
   rw [jfP hin]
   have e : goIdR (t.drop (i + 1)) b + (i + 1) = goIdR (t.drop (i + 1)) b + 1 + i := by omega
   rw [e] at ih'
   exact .step _ _ _ tree ih'
theorem jsZ : jab Tryz.prog 112 E_IdxR := jac mix jog (lp := jhX) (LO := jfG) ⟨Tryz.func112, by kernel_rfl, by kernel_rfl⟩ (by kernel_rfl) fun ivs res bxs h => by
 unfold E_IdxR at h
 split at h
 ·rename_i p f s g q r
  obtain ⟨hc, he⟩ := pick1 h
  cases he
  simp only [nqE] at hc
  obtain ⟨⟨h1, h2⟩, h3⟩ := hc
  obtain ⟨t, rfl, ht⟩ := jag h1
  obtain ⟨b, rfl, rfl, rfl, rfl, hx⟩ := jcb h2
  obtain rfl := nqB h3
  refine ⟨jar 2 (by kernel_rfl) (by kernel_rfl) (by kernel_rfl) ?_, (jpz t b).trans ?_⟩
  ·intro ls e ls' hl
   unfold jfG at hl
   split at hl
   ·rename_i p f s g q r n i
    cases hg : (isNs p && isTb (.agg [.str s, .str g, q, r]) && Nat.beq f 110 && (n == ((asNs p).length : Int)) && (i == 0)) with
    | false => rw [hg] at hl; simp only [pickA, Bool.false_and, cond_false] at hl; cases hl
    | true =>
     rw [hg, Bool.true_and] at hl
     simp only [nqE, beq_iff_eq] at hg
     obtain ⟨⟨⟨⟨g1, g2⟩, g3⟩, g4⟩, g5⟩ := hg
     obtain ⟨u, rfl, hu⟩ := jag g1
     obtain ⟨b, rfl, rfl, rfl, rfl, hy⟩ := jcb g2
     simp only [jat, tbA] at hl g4
     rw [nqB g3, g4, g5]
     have := jnK u hu b hy u.length 0 (by omega)
     rw [List.drop_zero, Nat.add_zero] at this
     by_cases hlt : goIdR u b < u.length
     ·rw [dT hlt] at hl
      rw [if_pos hlt] at this
      cases hl
      exact this
     ·rw [dF hlt] at hl
      rw [if_neg hlt] at this
      cases hl
      exact this
   ·cases hl
  ·simp only [jbp ht, tbI hx, tbA, jat, beq_self_eq_true, Bool.and_true, Bool.true_and, Nat.beq_refl]
   by_cases hlt : goIdR t b < t.length
   ·rw [dT hlt, if_pos hlt]
    rfl
   ·rw [dF hlt, if_neg hlt]
    rfl
 ·cases h
theorem jnM : jad Tryz.prog scb3 := ⟨jsZ, jog⟩
theorem jdF (t : List NodeT) (b : TblT) : (keepR t b).length ≤ t.length := List.length_filter_le _ _
theorem jdQ (t u : List NodeT) (b : TblT) : keepR (t ++ u) b = keepR t b ++ keepR u b := List.filter_append t u
theorem jct (x : NodeT) (b : TblT) : keepR [x] b = if (!noR b x) = true then [x] else [] := by
 unfold keepR
 rw [List.filter_cons]
 rfl
theorem jlm (b : TblT) : ∀ t : List NodeT, goIdR t b < t.length → keepR (t.take (goIdR t b + 1)) b = t.take (goIdR t b)
 | [], h => by simp at h
 | x :: t, h => by
  cases hin : noR b x with
  | true =>
   rw [jgV hin, Nat.zero_add, List.take_succ_cons, List.take_zero, List.take_zero, jct, hin]
   rfl
  | false =>
   rw [jfP hin] at h ⊢
   have ih := jlm b t (by simpa using h)
   rw [List.take_succ_cons, List.take_succ_cons, ← ih]
   show keepR ([x] ++ _) b = _
   rw [jdQ, jct, hin]
   rfl
theorem jkS (b : TblT) : ∀ t : List NodeT, ¬ goIdR t b < t.length → keepR t b = t
 | [], h => rfl
 | x :: t, h => by
  cases hin : noR b x with
  | true => rw [jgV hin] at h; simp at h
  | false =>
   rw [jfP hin] at h
   have ih := jkS b t (by simpa using h)
   show keepR ([x] ++ t) b = _
   rw [jdQ, jct, hin, ih]
   rfl
def delR (t : List NodeT) (b : TblT) (j : Nat) : List NodeT := keepR (t.take j) b ++ t.drop (keepR (t.take j) b).length
theorem jcn (t : List NodeT) (b : TblT) (j : Nat) : (keepR (t.take j) b).length ≤ j ∧ (keepR (t.take j) b).length ≤ t.length := by
 have := jdF (t.take j) b
 rw [List.length_take] at this
 omega
theorem jd0 (t : List NodeT) (b : TblT) (j : Nat) : (delR t b j).length = t.length := by
 unfold delR
 have := jcn t b j
 rw [nqG, List.length_drop]
 omega
theorem jo9 (t : List NodeT) (b : TblT) (j : Nat) : (delR t b j).drop j = t.drop j := by
 unfold delR
 have := jcn t b j
 rw [List.drop_append, List.drop_eq_nil_of_le this.1, List.nil_append, List.drop_drop]
 congr 1
 omega
theorem jpY (t : List NodeT) (h : shT t) (b : TblT) (hx : shTb b) : ∀ (m j : Nat), m + j = t.length → LoopsTo (rdB brC Tryz.prog scb3 jd5 jdp Tryz.f108 5 [])
  [aM 0 3 70 (delR t b j).length (encN (delR t b j)), aP (rcl b), aI (keepR (t.take j) b).length, aI j] (.exit 0, [aM 0 3 70 t.length (encN (keepR t b ++ t.drop (keepR t b).length)), aI (keepR t b).length]) := by
 have hl := h.1
 intro m
 induction m with
 | zero =>
  intro j hm
  obtain rfl : j = t.length := by omega
  refine .done _ _ ((jiv (delR t b t.length) b (keepR (t.take t.length) b).length t.length).trans ?_)
  rw [dF (by rw [jd0]; omega), jd0]
  unfold delR
  rw [List.take_length]
  rfl
 | succ m ih =>
  intro j hm
  have hj : j < t.length := by omega
  have hs := jet h hj
  have hkl := jcn t b j
  have hul := jd0 t b j
  have hud := jo9 t b j
  have ek : keepR (t.take (j + 1)) b = keepR (t.take j) b ++ (if (!noR b t[j]) = true then [t[j]] else []) := by
   rw [List.take_succ_eq_append_getElem hj, jdQ, jct]
  have hdrop : (encN (delR t b j)).drop (j * 3) = .str t[j].name :: .sl t[j].subs.length (t[j].subs.map PV.str) :: .str t[j].value :: encN (t.drop (j + 1)) := by
   rw [jia, hud, nqK hj]
   rfl
  have hel := jch (delR t b j)
  have b1 : Nat.ble (j * 3) (encN (delR t b j)).length = true := Nat.ble_eq_true_of_le (by omega)
  have b2 : Nat.ble ((keepR (t.take j) b).length * 3 + 3) (encN (delR t b j)).length = true := Nat.ble_eq_true_of_le (by omega)
  have b3 : ∀ (x y z : PV), Nat.beq (List.length [x, y, z]) 3 = true := fun _ _ _ => rfl
  have e2 := ja7 hx
  have e3 := jan b
  have tree := jiv (delR t b j) b (keepR (t.take j) b).length j
  simp (disch := omega) only [dT, nqF, hdrop, b1, b2, b3, nqH, List.headD_cons, List.tail_cons, PV.isStr, PV.asStr, PV.isSl, PV.slN, PV.slL, ble3, wrap1, Bool.and_true, Bool.true_and, jfF hs, jby, e2, e3] at tree
  cases hin : noR b t[j] with
  | true =>
   rw [hin] at tree ek
   simp only [Bool.not_true, if_neg Bool.false_ne_true, List.append_nil] at ek
   have ih' := ih (j + 1) (by omega)
   have eu : delR t b (j + 1) = delR t b j := by unfold delR; rw [ek]
   rw [eu, ek] at ih'
   exact .step _ _ _ tree ih'
  | false =>
   rw [hin] at tree ek
   simp only [Bool.not_false, if_pos] at ek
   have ih' := ih (j + 1) (by omega)
   have eu : encN (delR t b (j + 1)) = List.take ((keepR (t.take j) b).length * 3) (encN (delR t b j)) ++ [PV.str t[j].name, PV.sl t[j].subs.length (t[j].subs.map PV.str), PV.str t[j].value] ++ List.drop ((keepR (t.take j) b).length * 3 + 3) (encN (delR t b j)) := by
    rw [jiJ, show (keepR (t.take j) b).length * 3 + 3 = ((keepR (t.take j) b).length + 1) * 3 by omega, jia]
    unfold delR
    rw [ek]
    generalize keepR (t.take j) b = K
    have d1 : (K ++ t.drop K.length).drop (K.length + 1) = t.drop (K.length + 1) := by
     rw [List.drop_append, List.drop_eq_nil_of_le (Nat.le_succ _), List.nil_append, List.drop_drop]
     congr 1
     omega
    rw [d1, List.take_left, jdG, jdG, nqG, List.length_singleton]
    rfl
   have hl2 : (delR t b (j + 1)).length = (delR t b j).length := by rw [jd0, jd0]
   have hk2 : ((keepR (t.take (j + 1)) b).length : Int) = (((keepR (t.take j) b).length + 1 : Nat) : Int) := by rw [ek, nqG, List.length_singleton]
   rw [eu, hl2, hk2] at ih'
   exact .step _ _ _ tree ih'
theorem jsH : jab Tryz.prog 108 E_DelR := jac mix jnM (lp := jd5) (LO := jdp) ⟨Tryz.func108, by kernel_rfl, by kernel_rfl⟩ (by kernel_rfl) fun ivs res bxs h => by
 have loops : ∀ ivs : List IV, (∀ b ∈ jaq (jaY Tryz.f108), ja6 Tryz.prog (tabL scb3) (OL jd5) Tryz.f108.ntmps (pbOf []) jdp b) := fun _ => by
  refine jar 5 (by kernel_rfl) (by kernel_rfl) (by kernel_rfl) ?_
  intro ls e ls' hl
  unfold jdp at hl
  split at hl
  ·rename_i x e n l f s g q r i j
   obtain ⟨hc, he⟩ := pick1 hl
   cases he
   simp only [nqE, beq_iff_eq, decide_eq_true_eq] at hc
   obtain ⟨⟨⟨⟨⟨⟨⟨g1, g2⟩, g3⟩, g4⟩, g5⟩, g6⟩, g7⟩, g8⟩ := hc
   obtain ⟨t, ht', ht⟩ := jag g1
   obtain ⟨b, rfl, rfl, rfl, rfl, hy⟩ := jcb g2
   rw [ht'] at g6 g7 g8 ⊢
   injection ht' with hn hll
   subst hn
   subst hll
   simp only [jat, tbA] at g6 g7 g8 ⊢
   rw [nqB g3, nqB g4, nqB g5, g6, g7]
   have hk := jlm b t g8
   have hkl : (keepR (t.take (goIdR t b + 1)) b).length = goIdR t b := by rw [hk, List.length_take]; omega
   have := jpY t ht b hy (t.length - (goIdR t b + 1)) (goIdR t b + 1) (by omega)
   have eu : delR t b (goIdR t b + 1) = t := by
    unfold delR
    rw [hkl, hk, List.take_append_drop]
   rw [eu, hkl] at this
   exact this
  ·cases hl
 unfold E_DelR at h
 split at h
 ·rename_i e n l f s g q r
  cases hg : (isNs (.sl n l) && isTb (.agg [.str s, .str g, q, r]) && Nat.beq f 110 && Nat.beq e 70) with
  | false => rw [hg] at h; simp only [pickA, Bool.false_and, cond_false] at h; cases h
  | true =>
   rw [hg, Bool.true_and] at h
   simp only [nqE] at hg
   obtain ⟨⟨⟨g1, g2⟩, g3⟩, g4⟩ := hg
   obtain ⟨t, ht', ht⟩ := jag g1
   obtain ⟨b, rfl, rfl, rfl, rfl, hy⟩ := jcb g2
   rw [ht'] at h
   injection ht' with hn hl
   subst hn
   subst hl
   simp only [jat, tbA] at h
   rw [nqB g3, nqB g4]
   refine ⟨loops [], (jo7 t b).trans ?_⟩
   try delta zzas1
   try delta zzas0
   have hlen := ht.1
   have hkl := jdF t b
   have e1 := jbp ht
   have e2 := tbI hy
   have e3 := tbA b
   simp only [isNs, e1, e2, e3, jat]
   by_cases hlt : goIdR t b < t.length
   ·rw [dT hlt] at h
    cases h
    rw [if_pos hlt]
    have n1 : ((goIdR t b : Int) == -1) = false := by simp
    have n2 : (IntKind.wrap .i64 ((goIdR t b : Int) + 1) == (goIdR t b : Int) + 1) = true := by rw [wrap1 (by omega)]; simp
    have er : PV.sl (Int.toNat ((keepR t b).length : Int) - 0) (List.take ((Int.toNat ((keepR t b).length : Int) - 0) * 3) (List.drop (0 * 3) (List.take (Int.toNat ((keepR t b).length : Int) * 3) (encN (keepR t b ++ List.drop (keepR t b).length t)) ++ List.flatten (List.replicate (t.length - Int.toNat ((keepR t b).length : Int)) [PV.str { data := #[] }, PV.nils, PV.str { data := #[] }])))) = pNs (keepR t b) := by
     rw [nqF, Nat.sub_zero, Nat.zero_mul, List.drop_zero, jiJ, List.take_left, List.take_append_of_le_length (by rw [jch]; exact Nat.le_refl _), List.take_of_length_le (by rw [jch]; exact Nat.le_refl _)]
    rw [n1, n2, er]
    simp (disch := omega) only [dT, hlt, beq_self_eq_true, Nat.beq_refl, Bool.and_true, Bool.true_and]
    rfl
   ·rw [dF hlt] at h
    cases h
    rw [if_neg hlt]
    rfl
 ·rename_i f s g q r
  obtain ⟨hc, he⟩ := pick1 h
  cases he
  rw [nqE] at hc
  obtain ⟨b, rfl, rfl, rfl, rfl, hy⟩ := jcb hc.1
  rw [nqB hc.2]
  refine ⟨loops [], (jmA b).trans ?_⟩
  have e1 : isNs (.sl 0 []) = true := jbp (t := []) ⟨Nat.zero_le _, fun _ h => by cases h⟩
  have e2 : asNs (.sl 0 []) = [] := jat []
  rw [e1, e2, tbI hy]
  rfl
 ·cases h
theorem jk8 : jab Tryz.prog 109 E_CloN1 := jac mix (tab := []) trivial (lp := [(1000000, [5, 7], [])]) (LO := LO0) ⟨Tryz.func109, by kernel_rfl, by kernel_rfl⟩ (by kernel_rfl) fun ivs res bxs h => by
 unfold E_CloN1 at h
 split at h
 ·rename_i p
  obtain ⟨hc, he⟩ := pick1 h
  cases he
  obtain ⟨k0, k1⟩ := andE hc
  obtain ⟨t, rfl, ht⟩ := jag k0
  have e1 : asNs (pNs t) = t := jat t
  have h2 := nqI k1
  rw [e1] at h2 ⊢
  have hl := ht.1
  cases t with
  | nil => simp at h2
  | cons x t =>
   have tree := joQ x t
   rw [nqH] at hl
   have b1 : Nat.beq (PV.str x.name :: PV.sl x.subs.length (x.subs.map PV.str) :: PV.str x.value :: encN t).length ((t.length + 1) * 3) = true := by
    rw [show (PV.str x.name :: PV.sl x.subs.length (x.subs.map PV.str) :: PV.str x.value :: encN t) = encN (x :: t) from rfl, jch, nqH, Nat.beq_refl]
   rw [b1, dT (show 0 + (t.length + 1) ≤ 140737488351232 by omega), dT (show (0 + (t.length + 1)) * 56 ≤ 140737488355328 by omega), Nat.zero_add] at tree
   exact ⟨jao (by kernel_rfl), tree⟩
 ·cases h
theorem jrw : jab Tryz.prog 109 E_CloN0 := ⟨jk8.1, fun ivs res bxs h => by
 unfold E_CloN0 at h
 split at h
 ·rename_i n l
  obtain ⟨hc, he⟩ := pick1 h
  cases he
  obtain ⟨k0, k1⟩ := andE hc
  obtain rfl := nqB k0
  obtain rfl := ja8 k1
  refine jeO (ps := [.sl 0 []]) (p := .sl 0 []) fun w com vals hv hfr hgl => ?_
  obtain ⟨v, vs, rfl, hv1, hn⟩ := hv.of_cons
  rw [hn.of_nil]
  have fin : ∀ (a : Option Addr) (c : Nat), Calls Tryz.prog 109 #[.slice a 0 c] w fun e w' => ∃ a' c', e = .returned (.slice a' 0 c') ∧ Below w.heap.size w w' := fun a c => by
   cases a with
   | none => exact jrA c w
   | some a => exact jow a c w
  cases hv1 with
  | sl0 a c =>
   refine (fin a c).mono ?_
   rintro e w' ⟨a', c', rfl, hb⟩
   exact ⟨.slice a' 0 c', com, rfl, .sl0 a' c', ⟨fun _ => Nat.le_refl _, fun b i hi => jaC.cell_of_block (hb.block b (by
    rcases Nat.lt_or_ge b w.heap.size with h | h
    ·exact h
    ·rw [hfr b h] at hi; exact absurd hi (Nat.not_lt_zero _)))⟩, fun b hs => hfr b (Nat.le_trans hb.size hs), fun _ _ => rfl, hb⟩
  | sl b off n cap cs l hn hl h1 hc hm he =>
   refine (fin _ _).mono ?_
   rintro e w' ⟨a', c', rfl, hb⟩
   exact ⟨.slice a' 0 c', com, rfl, .sl0 a' c', ⟨fun _ => Nat.le_refl _, fun b i hi => jaC.cell_of_block (hb.block b (by
    rcases Nat.lt_or_ge b w.heap.size with h | h
    ·exact h
    ·rw [hfr b h] at hi; exact absurd hi (Nat.not_lt_zero _)))⟩, fun b hs => hfr b (Nat.le_trans hb.size hs), fun _ _ => rfl, hb⟩
 ·cases h⟩
theorem juh : jab Tryz.prog 109 E_CloN := jdP jrw jk8
theorem jtp : jad Tryz.prog scb4 := ⟨jsH, juh, jnM⟩
theorem jiu {t : List NodeT} {b : TblT} {x : NodeT} (h : x ∈ keepR t b) : x ∈ t ∧ rwN b x = true := by
 unfold keepR at h
 rw [List.mem_filter] at h
 refine ⟨h.1, ?_⟩
 have := h.2
 unfold noR at this
 cases hr : rwN b x <;> rw [hr] at this <;> first | rfl | cases this
theorem jg3 {t : List NodeT} (h : shT t) (b : TblT) : shT (keepR t b) := ⟨Nat.le_trans (jdF t b) h.1, fun x hx => h.2 x (jiu hx).1⟩
theorem jqT : jab Tryz.prog 78 E_rowNs := jb3 mix jtp (lp := [(1000001, [144], [])]) (LO := LO0) ⟨Tryz.func78, by kernel_rfl, by kernel_rfl⟩ (by kernel_rfl) fun ivs res bxs h => by
 unfold E_rowNs at h
 split at h
 ·rename_i p q
  obtain ⟨hc, he⟩ := pick1 h
  cases he
  obtain ⟨k0, k1⟩ := andE hc
  obtain ⟨t, rfl, h_t⟩ := jag k0
  obtain ⟨b, rfl, h_b⟩ := jaz k1
  have e_t : asT (pT t) = t := ja2 t
  have e_b : asTb (pTb b) = b := jan b
  rw [e_t, e_b]
  have tree := jnb t b
  revert tree; try delta zzao0; intro tree
  have i1 : isNs (PV.sl t.length (encN t)) = true := jbt (enc := pNs) h_t
  have a1 : asNs (PV.sl t.length (encN t)) = t := jat t
  rw [tbI h_b, i1, a1, i1, a1, tbA] at tree
  cases t with
  | nil =>
   refine ⟨jao (by kernel_rfl), _, tree.trans (by rw [show encN [] = [] from rfl, jbQ]; rfl), rfl, rfl⟩
  | cons x t =>
   have hz : Nat.beq (x :: t).length 0 = false := rfl
   rw [hz, Bool.false_and, brFc, dT (show 1 ≤ (x :: t).length by rw [nqH]; omega)] at tree
   by_cases hg : goIdR (x :: t) b < (x :: t).length
   ·rw [dT hg] at tree
    exact ⟨jao (by kernel_rfl), _, tree, rfl, rfl⟩
   ·rw [dF hg] at tree
    refine ⟨jao (by kernel_rfl), _, tree, rfl, ?_⟩
    rw [jkS b _ hg]
    rfl
 ·cases h
theorem juk : jab Tryz.prog 98 E_unpM := jac mix jtO (lp := [(1000000, [10, 20], [23, 27, 33]), (2000016, [8, 0, 17], [])]) (LO := LO0) ⟨Tryz.func98, by kernel_rfl, by kernel_rfl⟩ (by kernel_rfl) fun ivs res bxs h => by
 unfold E_unpM at h
 split at h
 ·rename_i p k v
  have key : ∀ b, shTb b → k.size ≤ 50000 → v.size ≤ 50000 → tblB b = true → jsj brC b k v = if unpB b k v = true then some (.tup [.agg [.lst 1 9 (jav b k v).length ((jav b k v).map .str) true], cI 0], []) else some (.tup [.agg [.pv .nils], cI 14], []) := fun b hb hk hv hB => by
   have tree := joC b k v
   revert tree; try delta zzaq1; intro tree
   revert tree; try delta zzaq0; intro tree
   obtain ⟨c1, c5⟩ := jdL hB
   have hsh := joK hv
   have hpk := jnc b k v
   have fin : ∀ cs : List ByteArray, jav b k v = cs → shL cs → ∀ X : Option (IV × List (List CV)), X = brC (isTb (PV.agg [PV.str b.name, PV.str b.glob, PV.sl b.cols.length (b.cols.map PV.str), PV.sl b.idxs.length (b.idxs.map PV.str)]) && isRw (PV.agg [PV.sl cs.length (cs.map .str)]) && decide (1 ≤ (asTb (PV.agg [PV.str b.name, PV.str b.glob, PV.sl b.cols.length (b.cols.map PV.str), PV.sl b.idxs.length (b.idxs.map PV.str)])).cols.length))
     (brC (!rowB (asTb (PV.agg [PV.str b.name, PV.str b.glob, PV.sl b.cols.length (b.cols.map PV.str), PV.sl b.idxs.length (b.idxs.map PV.str)])) (asRw (PV.agg [PV.sl cs.length (cs.map .str)])))
      (some (.tup [.agg [.pv .nils], cI 14], []))
      (brC (isRw (PV.agg [PV.sl cs.length (cs.map .str)]) && decide (1 ≤ (asRw (PV.agg [PV.sl cs.length (cs.map .str)])).length) && decide ((packL (asRw (PV.agg [PV.sl cs.length (cs.map .str)]))).length ≤ 1048576))
       (brC (!(ByteArray.toList (bs (packL (asRw (PV.agg [PV.sl cs.length (cs.map .str)])))) == ByteArray.toList v))
        (some (.tup [.agg [.pv .nils], cI 14], []))
        (some (.tup [.agg [.lst 1 9 cs.length (cs.map .str) true], cI 0], [])))
       none))
     none → X = if unpB b k v = true then some (.tup [.agg [.lst 1 9 (jav b k v).length ((jav b k v).map .str) true], cI 0], []) else some (.tup [.agg [.pv .nils], cI 14], []) := fun cs hcs hsc X hX => by
    rw [hX]
    have f1 : isTb (PV.agg [PV.str b.name, PV.str b.glob, PV.sl b.cols.length (b.cols.map PV.str), PV.sl b.idxs.length (b.idxs.map PV.str)]) = true := ja7 hb
    have f2 : isRw (PV.agg [PV.sl cs.length (cs.map .str)]) = true := jj2 hsc
    have f3 : asTb (PV.agg [PV.str b.name, PV.str b.glob, PV.sl b.cols.length (b.cols.map PV.str), PV.sl b.idxs.length (b.idxs.map PV.str)]) = b := jan b
    have f4 : asRw (PV.agg [PV.sl cs.length (cs.map .str)]) = cs := jdj cs
    rw [f1, f2, f3, f4, dT c1]
    unfold unpB
    rw [hcs] at hpk ⊢
    cases hR : rowB b cs with
    | false => rfl
    | true =>
     obtain ⟨g1, g2⟩ := jrD hB hR
     rw [dT g1, dT (show (packL cs).length ≤ 1048576 by omega)]
     have e : (ByteArray.toList (bs (packL cs)) == ByteArray.toList v) = (decide (1 < b.cols.length) || v.data.toList.isEmpty) := by
      rw [joe, ByteArray.toList_eq, Bool.eq_iff_iff, beq_iff_eq]
      exact hpk
     rw [e]
     cases (decide (1 < b.cols.length) || v.data.toList.isEmpty) <;> rfl
   by_cases h1 : 1 < b.cols.length
   ·have hcs : jav b k v = k :: cutV v := by rw [jb8, if_pos h1]
    have hsc : shL (k :: cutV v) := ⟨by
     have h4 := (jdt (datas (cutV v))).1
     rw [(jca v).1, List.length_map] at h4
     have hq : v.data.toList.length = v.size := by rw [Array.length_toList]; rfl
     rw [nqH]
     omega, fun u hu => by
     rcases List.mem_cons.1 hu with rfl | hu
     ·omega
     ·exact hsh.2 u hu⟩
    have hl := hsh.1
    have hcar : holds (jkB ⟨#[94]⟩) = true := jak rfl
    have b1 : Nat.beq ((cutV v).map PV.str).length ((cutV v).length * 1) = true := by rw [List.length_map, Nat.mul_one]; exact Nat.beq_refl _
    rw [dT (show (b.cols.length : Int) > 1 by omega), hcar, b1, dT (show v.size ≤ 1048576 by omega), dT (show 1 + (cutV v).length ≤ 140737488351232 by omega), dT (show (1 + (cutV v).length) * 16 ≤ 140737488355328 by omega), Nat.add_comm 1] at tree
    exact fin _ hcs hsc _ (tree.trans rfl)
   ·have hcs : jav b k v = [k] := by rw [jb8, if_neg h1]
    have hsc : shL [k] := ⟨by simp, fun u hu => by rw [List.mem_singleton.1 hu]; omega⟩
    rw [dF (show ¬ (b.cols.length : Int) > 1 by omega)] at tree
    exact fin _ hcs hsc _ (tree.trans rfl)
  refine ⟨jao (by kernel_rfl), ?_⟩
  rcases pick2 h with ⟨hc, he⟩ | ⟨hc1, hc, he⟩
  ·cases he
   simp only [nqE, decide_eq_true_eq] at hc
   obtain ⟨⟨⟨⟨h1, h2⟩, h3⟩, h4⟩, h5⟩ := hc
   obtain ⟨b, rfl, hb⟩ := jaz h1
   have e4 : asTb (pTb b) = b := jan b
   rw [e4] at h4 h5 ⊢
   exact (key b hb h2 h3 h4).trans (by rw [if_pos h5])
  ·cases he
   simp only [nqE, decide_eq_true_eq] at hc
   obtain ⟨⟨⟨h1, h2⟩, h3⟩, h4⟩ := hc
   obtain ⟨b, rfl, hb⟩ := jaz h1
   have e4 : asTb (pTb b) = b := jan b
   rw [h1, dT h2, dT h3, e4] at hc1
   rw [e4] at h4
   rw [h4] at hc1
   exact (key b hb h2 h3 h4).trans (by rw [if_neg (by rw [show unpB b k v = false from hc1]; exact Bool.false_ne_true)])
 ·cases h
theorem jhn {l : List NodeT} (h : nodR l = true) {i : Nat} (hi : i < l.length) : ∃ a c, l[i].subs = [a, c] ∧ c.size ≤ 24 ∧ l[i].value.size ≤ 64 := by
 have := List.all_eq_true.1 h _ (List.getElem_mem hi)
 obtain ⟨h1, h2⟩ := andE this
 obtain ⟨h2, h3⟩ := andE h2
 have h1 := nqI h1
 have h2 := nqI h2
 have h3 := nqI h3
 match hs : l[i].subs, h1 with
 | [a, c], _ =>
  rw [hs] at h2
  exact ⟨a, c, rfl, h2, h3⟩
theorem jrV {x : NodeT} (h : nodeB x = true) : x.value.size ≤ 64 ∧ ∀ s ∈ x.subs, s.size ≤ 24 := by
 unfold nodeB jdc subsB at h
 simp only [nqE, decide_eq_true_eq] at h
 refine ⟨h.2, fun s hs => ?_⟩
 have := List.all_eq_true.1 h.1.2.2 s hs
 unfold subB at this
 simp only [nqE, decide_eq_true_eq] at this
 exact this.2
theorem jdE {t : List NodeT} (h : treeB t = true) (b : TblT) : nodR (keepR t b) = true := by
 obtain ⟨_, hall, _⟩ := jr9 h
 refine List.all_eq_true.2 fun x hx => ?_
 obtain ⟨hm, hr⟩ := jiu hx
 have hb := hall x hm
 unfold rwN at hr
 obtain ⟨_, hr⟩ := andE hr
 obtain ⟨h2, _⟩ := andE hr
 have h2 := nqI h2
 have hv : x.value.size ≤ 64 ∧ ∀ s ∈ x.subs, s.size ≤ 24 := jrV hb
 rw [dT h2, dT hv.1, Bool.and_true, Bool.true_and]
 match hs : x.subs, h2 with
 | [a, c], _ => exact dT (hv.2 c (by rw [hs]; simp))
theorem jqX (t : List NodeT) (h : shT t) (b : TblT) (hb : shTb b) : ∀ (m i : Nat), m + i = t.length →
  LoopsTo (rdB brC Tryz.prog [] jlb jk3 Tryz.f75 3 []) [aBx 2 [.pv (pNs t)], bxTb 3 b, aFn 5 (keepR (t.take i) b), aI i] (.exit 0, [aFn 5 (keepR t b)]) := by
 have hl := h.1
 intro m
 induction m with
 | zero =>
  intro i hm
  obtain rfl : i = t.length := by omega
  rw [List.take_length]
  refine .done _ _ ((jlA t b (keepR t b) t.length).trans ?_)
  try delta zzar0
  rw [dF (by omega)]
  rfl
 | succ m ih =>
  intro i hm
  have hi : i < t.length := by omega
  have ih' := ih (i + 1) (by omega)
  have hkl := jdF (t.take i) b
  rw [List.length_take] at hkl
  have tree := jlA t b (keepR (t.take i) b) i
  revert tree; try delta zzar0; intro tree
  have b3 : ∀ (x y z : PV), Nat.beq (List.length [x, y, z]) (1 * 3) = true := fun _ _ _ => rfl
  simp (disch := omega) only [dT, nqF, jaR t i hi, b3, nqH, List.headD_cons, List.tail_cons, PV.isStr, PV.asStr, PV.isSl, PV.slN, PV.slL, ble3, wrap1, Bool.and_true, Bool.true_and] at tree
  have ek : keepR (t.take (i + 1)) b = keepR (t.take i) b ++ (if rwN b t[i] = true then [t[i]] else []) := by
   rw [List.take_succ_eq_append_getElem hi, jdQ, jct]
   unfold noR
   rw [Bool.not_not]
  have hskip : rwN b t[i] = false → keepR (t.take (i + 1)) b = keepR (t.take i) b := fun e => by rw [ek, e, if_neg Bool.false_ne_true, List.append_nil]
  unfold rwN at ek hskip
  cases h1 : (t[i].name.toList == b.glob.toList) with
  | false =>
   rw [h1] at tree hskip
   rw [hskip rfl] at ih'
   exact .step _ _ _ tree ih'
  | true =>
   rw [h1] at tree hskip ek
   obtain ⟨u, hs⟩ : ∃ u, t[i].subs = u := ⟨_, rfl⟩
   rw [hs] at tree hskip ek
   match u with
   | [] =>
    rw [hskip rfl] at ih'
    exact .step _ _ _ tree ih'
   | a :: l =>
    by_cases h2 : (a :: l).length = 2
    ·have h3 : ((((a :: l).length : Nat) : Int) == 2) = true := by rw [h2]; rfl
     have h4 : (0 : Int) < (((a :: l).length : Nat) : Int) := by rw [h2]; decide
     rw [h3, dT h4] at tree
     rw [dT h2] at hskip ek
     cases h5 : (a.toList == [114]) with
     | false =>
      have h5' := h5
      rw [show ((a :: l).headD ⟨#[]⟩) = a from rfl, h5] at hskip
      rw [hskip rfl] at ih'
      refine .step _ _ _ (tree.trans ?_) ih'
      show brC true (brC true (brC true (brC (a.toList == [114]) _ _) _) _) _ = _
      rw [h5]
      rfl
     | true =>
      rw [show ((a :: l).headD ⟨#[]⟩) = a from rfl, h5] at ek
      replace ek : keepR (t.take (i + 1)) b = keepR (t.take i) b ++ [t[i]] := ek
      rw [ek] at ih'
      unfold aFn at ih'
      rw [jdG, nqG, List.length_singleton, show encN [t[i]] = [PV.str t[i].name, PV.sl (a :: l).length ((a :: l).map PV.str), PV.str t[i].value] from by
       show [PV.str t[i].name, PV.sl t[i].subs.length (t[i].subs.map PV.str), PV.str t[i].value] = _
       rw [hs]] at ih'
      refine .step _ _ _ (tree.trans ?_) ih'
      show brC true (brC true (brC true (brC (a.toList == [114]) _ _) _) _) _ = _
      rw [h5]
      rfl
    ·have h3 : ((((a :: l).length : Nat) : Int) == 2) = false := beq_eq_false_iff_ne.2 (by omega)
     rw [h3] at tree
     rw [dF h2] at hskip
     rw [hskip rfl] at ih'
     exact .step _ _ _ tree ih'
theorem jvi : jab Tryz.prog 75 E_rowNs := jb3 mix (tab := []) trivial (lp := jlb) (LO := jk3) ⟨Tryz.func75, by kernel_rfl, by kernel_rfl⟩ (by kernel_rfl) fun ivs res bxs h => by
 unfold E_rowNs at h
 split at h
 ·rename_i p q
  obtain ⟨hc, he⟩ := pick1 h
  cases he
  obtain ⟨k0, k1⟩ := andE hc
  obtain ⟨t, rfl, h_t⟩ := jag k0
  obtain ⟨b, rfl, h_b⟩ := jaz k1
  have e_t : asT (pT t) = t := ja2 t
  have e_b : asTb (pTb b) = b := jan b
  rw [e_t, e_b]
  have tree := jrC t b
  have i1 : isNs (pNs t) = true := jbt (enc := pNs) h_t
  have a1 : asNs (pNs t) = t := jat t
  rw [tbI h_b, tbA, i1, a1, jbQ] at tree
  refine ⟨jar 3 (by kernel_rfl) (by kernel_rfl) (by kernel_rfl) ?_, _, tree, rfl, rfl⟩
  intro ls e ls' hl
  replace hl : pickA (jhi ls) = some (e, ls') := hl
  unfold jhi at hl
  split at hl
  ·rename_i y p x s g q r z e n l i
   obtain ⟨hc, he⟩ := pick1 hl
   cases he
   obtain ⟨hc, g8⟩ := andE hc
   obtain ⟨hc, g7⟩ := andE hc
   obtain ⟨hc, g6⟩ := andE hc
   obtain ⟨hc, g5⟩ := andE hc
   obtain ⟨hc, g4⟩ := andE hc
   obtain ⟨hc, g3⟩ := andE hc
   obtain ⟨hc, g2⟩ := andE hc
   obtain ⟨g0, g1⟩ := andE hc
   obtain ⟨b, rfl, rfl, rfl, rfl, h_b⟩ := jcb g0
   obtain ⟨t, rfl, h_t⟩ := jag g1
   have e_t : asNs (pNs t) = t := jat t
   obtain rfl := nqB g2
   obtain rfl := nqB g3
   obtain rfl := nqB g4
   obtain rfl := nqB g5
   obtain rfl := nqB g6
   obtain rfl := ja8 g7
   rw [eq_of_beq g8, tbA, e_t]
   have := jqX t h_t b h_b t.length 0 rfl
   rw [List.take_zero] at this
   exact this
  ·cases hl
 ·cases h
end
section
open Go.RowKit
def sdb0 : List (FuncId × Entry) := (55, E_eqNds) :: (56, E_eqSt) :: (69, E_mkNd) :: (70, E_mkS2) :: [(72, E_hdS)]
def juK (br : Br) (t u : List NodeT) := evB br Tryz.prog sdb0 [] LO0 Tryz.f16 [cP (pT t), cP (pT u)]
def E_eqTr : Entry := fun ivs => match ivs with
 | [.cv (.pv p), .cv (.pv q)] => [(isT p && isT q, cB (holds (asT p = asT q)), [])]
 | _ => []
def jvv (br : Br) (x y : TblT) := evB br Tryz.prog sdb0 [] LO0 Tryz.f17 [cP (pTb x), cP (pTb y)]
def E_eqTb : Entry := fun ivs => match ivs with
 | [.cv (.pv p), .cv (.pv q)] => [(isTb p && isTb q, cB (holds (asTb p = asTb q)), [])]
 | _ => []
abbrev jpk : List (Nat × List Nat × List Nat) := [(1000000, [], [2, 6]), (1000001, [1600128], [])]
def jvn (br : Br) (n : Nat) (l : List PV) (k : Int) := evB br Tryz.prog sdb0 jpk LO0 Tryz.f24 [.lk true [] 3 (70 + 2000000) n l [], cI k]
def E_mkTr : Entry := fun ivs => match ivs with
 | [.lk true [] 3 e n l [], .cv (.pv (.int .i64 k))] =>
  [(Nat.beq e (70 + 2000000) && isNs (.sl n l) && mrkB k && holds (mkNdE k (asNs (.sl n l)) ≤ 800000000), cI (mkNdE k (asNs (.sl n l))), [[.dls 3 70 n (encN (mkNds k (asNs (.sl n l))))]])]
 | _ => []
abbrev jo1 : List (Nat × List Nat × List Nat) := [(1000000, [], [2, 6, 10]), (1000001, [1600128, 1600192], [])]
def jvF (br : Br) (s g : ByteArray) (cs is : List ByteArray) (k : Int) := evB br Tryz.prog sdb0 jo1 LO0 Tryz.f25 [.lag [.pv (.str s), .pv (.str g), .lst 1 9 cs.length (cs.map .str) true, .lst 1 9 is.length (is.map .str) true], cI k]
def E_mkTb : Entry := fun ivs => match ivs with
 | [.lag [.pv (.str s), .pv (.str g), .lst 1 e n l true, .lst 1 f m u true], .cv (.pv (.int .i64 k))] =>
  [(isL (.sl n l) && isL (.sl m u) && Nat.beq e 9 && Nat.beq f 9 && decide (1 ≤ k) && holds (k ≤ 800000000), cI (k + n + m), [[.pv (.str s), .pv (.str g), .lst 1 9 n ((mkL k (asL (.sl n l))).map .str) true, .lst 1 9 m ((mkL (k + n) (asL (.sl m u))).map .str) true]])]
 | _ => []
end
section
theorem jpc (t : List NodeT) (u : List NodeT) : juK brC t u =
 brC (isNs (PV.sl (List.length t) (encN t)) && isNs (PV.sl (List.length u) (encN u)))
 (brC (!holds (asNs (PV.sl (List.length t) (encN t)) = asNs (PV.sl (List.length u) (encN u))))
 (some ((.cv (.pv (.bool false)), [])))
 (some ((.cv (.pv (.bool true)), []))))
 none := by kernel_rfl
theorem jpO (x : TblT) (y : TblT) : jvv brC x y =
 brC (!ByteArray.toList (TblT.name x) == ByteArray.toList (TblT.name y))
 (some ((.cv (.pv (.bool false)), [])))
 (brC (!ByteArray.toList (TblT.glob x) == ByteArray.toList (TblT.glob y))
 (some ((.cv (.pv (.bool false)), [])))
 (brC (isL (PV.sl (List.length (TblT.cols x)) (List.map PV.str (TblT.cols x))) && isL (PV.sl (List.length (TblT.cols y)) (List.map PV.str (TblT.cols y))))
 (brC (!holds (asL (PV.sl (List.length (TblT.cols x)) (List.map PV.str (TblT.cols x))) = asL (PV.sl (List.length (TblT.cols y)) (List.map PV.str (TblT.cols y)))))
 (some ((.cv (.pv (.bool false)), [])))
 (brC (isL (PV.sl (List.length (TblT.idxs x)) (List.map PV.str (TblT.idxs x))) && isL (PV.sl (List.length (TblT.idxs y)) (List.map PV.str (TblT.idxs y))))
 (brC (!holds (asL (PV.sl (List.length (TblT.idxs x)) (List.map PV.str (TblT.idxs x))) = asL (PV.sl (List.length (TblT.idxs y)) (List.map PV.str (TblT.idxs y)))))
 (some ((.cv (.pv (.bool false)), [])))
 (some ((.cv (.pv (.bool true)), []))))
 none))
 none)) := by kernel_rfl
theorem jo4 (n : Nat) (l : List PV) (k : Int) : jvn brC n l k =
 brC (Nat.beq (70 + 2000000 - 2000000 + 2000000) 2000070 && isNs (PV.sl n l) && mrkB k && holds (mkNdE k (asNs (PV.sl n l)) ≤ 800000000))
 (brC (Nat.beq n n)
 (some ((.cv (.pv (.int .i64 (mkNdE k (asNs (PV.sl n l))))), [[.dls 3 70 n (encN (mkNds k (asNs (PV.sl n l))))]])))
 none)
 none := by kernel_rfl
theorem jo3 (s : ByteArray) (g : ByteArray) (cs : List ByteArray) (is : List ByteArray) (k : Int) : jvF brC s g cs is k =
 brC (isL (PV.sl (List.length cs) (List.map PV.str cs)) && Nat.beq 9 9 && decide (1 ≤ k) && holds (k ≤ 900000000))
 (brC (isL (PV.sl (List.length is) (List.map PV.str is)) && Nat.beq 9 9 && decide (1 ≤ k + (↑(List.length (asL (PV.sl (List.length cs) (List.map PV.str cs)))) : Int)) && holds (k + (↑(List.length (asL (PV.sl (List.length cs) (List.map PV.str cs)))) : Int) ≤ 900000000))
 (brC (Nat.beq (List.length cs) (List.length cs) && (Nat.beq (List.length is) (List.length is) && true))
 (some ((.cv (.pv (.int .i64 (k + (↑(List.length (asL (PV.sl (List.length cs) (List.map PV.str cs)))) : Int) + (↑(List.length (asL (PV.sl (List.length is) (List.map PV.str is)))) : Int)))), [[.pv (.str s), .pv (.str g), .lst 1 9 (List.length cs) (List.map PV.str (mkL k (asL (PV.sl (List.length cs) (List.map PV.str cs))))) true, .lst 1 9 (List.length is) (List.map PV.str (mkL (k + (↑(List.length (asL (PV.sl (List.length cs) (List.map PV.str cs)))) : Int)) (asL (PV.sl (List.length is) (List.map PV.str is))))) true]])))
 none)
 none)
 none := by kernel_rfl
end
section
open Go.RowKit
theorem jhE : jad Tryz.prog sdb0 := ⟨jq6, jnP, js4, jtw, jso, trivial⟩
theorem tbEq (x y : TblT) : holds (x = y) = ((x.name.toList == y.name.toList) && ((x.glob.toList == y.glob.toList) && (holds (x.cols = y.cols) && holds (x.idxs = y.idxs)))) := by
 rw [Bool.eq_iff_iff]
 constructor
 ·intro h
  have e := jam h
  subst e
  rw [jak (rfl : x.cols = x.cols), jak (rfl : x.idxs = x.idxs), beq_self_eq_true, beq_self_eq_true]
  rfl
 ·intro h
  simp only [nqE, beq_iff_eq] at h
  obtain ⟨h1, h2, h3, h4⟩ := h
  have h1 := ba_tl h1
  have h2 := ba_tl h2
  have h3 := jam h3
  have h4 := jam h4
  cases x
  cases y
  dsimp only at h1 h2 h3 h4
  rw [h1, h2, h3, h4]
  exact jak rfl
theorem jtK : jab Tryz.prog 16 E_eqTr := jac mix jhE (lp := []) (LO := LO0) ⟨Tryz.func16, by kernel_rfl, by kernel_rfl⟩ (by kernel_rfl) fun ivs res bxs h => by
 unfold E_eqTr at h
 split at h
 ·rename_i p q
  obtain ⟨hc, he⟩ := pick1 h
  cases he
  obtain ⟨k0, k1⟩ := andE hc
  obtain ⟨t, rfl, h_t⟩ := jag k0
  obtain ⟨u, rfl, h_u⟩ := jag k1
  have e_t : asT (pT t) = t := ja2 t
  have e_u : asT (pT u) = u := ja2 u
  rw [e_t, e_u]
  refine ⟨jao (by kernel_rfl), (jpc t u).trans ?_⟩
  rw [show isNs (PV.sl t.length (encN t)) = true from jbp h_t, show isNs (PV.sl u.length (encN u)) = true from jbp h_u, show asNs (PV.sl t.length (encN t)) = t from jat t, show asNs (PV.sl u.length (encN u)) = u from jat u]
  cases holds (t = u) <;> rfl
 ·cases h
theorem jsE : jab Tryz.prog 17 E_eqTb := jac mix jhE (lp := []) (LO := LO0) ⟨Tryz.func17, by kernel_rfl, by kernel_rfl⟩ (by kernel_rfl) fun ivs res bxs h => by
 unfold E_eqTb at h
 split at h
 ·rename_i p q
  obtain ⟨hc, he⟩ := pick1 h
  cases he
  obtain ⟨k0, k1⟩ := andE hc
  obtain ⟨x, rfl, h_x⟩ := jag k0
  obtain ⟨y, rfl, h_y⟩ := jag k1
  have e_x : asTb (pTb x) = x := jan x
  have e_y : asTb (pTb y) = y := jan y
  rw [e_x, e_y, tbEq]
  refine ⟨jao (by kernel_rfl), (jpO x y).trans ?_⟩
  have i1 := jal h_x.2.2.1
  have i2 := jal h_y.2.2.1
  have i3 := jal h_x.2.2.2
  have i4 := jal h_y.2.2.2
  simp only [isL, i1, i2, i3, i4, jah, Bool.and_true]
  generalize (x.name.toList == y.name.toList) = a
  generalize (x.glob.toList == y.glob.toList) = b
  generalize holds (x.cols = y.cols) = c
  generalize holds (x.idxs = y.idxs) = d
  cases a <;> cases b <;> cases c <;> cases d <;> rfl
 ·cases h
theorem jtL : jab Tryz.prog 24 E_mkTr := jac mix jhE (lp := jpk) (LO := LO0) ⟨Tryz.func24, by kernel_rfl, by kernel_rfl⟩ (by kernel_rfl) fun ivs res bxs h => by
 unfold E_mkTr at h
 split at h
 ·rename_i e n l k
  obtain ⟨hc, he⟩ := pick1 h
  cases he
  obtain ⟨hc, k3⟩ := andE hc
  obtain ⟨hc, k2⟩ := andE hc
  obtain ⟨k0, k1⟩ := andE hc
  obtain rfl := nqB k0
  refine ⟨jao (by kernel_rfl), (jo4 n l k).trans ?_⟩
  rw [k1, k2, k3, Nat.beq_refl n]
  rfl
 ·cases h
theorem jtg : jab Tryz.prog 25 E_mkTb := jac mix jhE (lp := jo1) (LO := LO0) ⟨Tryz.func25, by kernel_rfl, by kernel_rfl⟩ (by kernel_rfl) fun ivs res bxs h => by
 unfold E_mkTb at h
 split at h
 ·rename_i s g e n l f m u k
  obtain ⟨hc, he⟩ := pick1 h
  cases he
  obtain ⟨hc, k5⟩ := andE hc
  obtain ⟨hc, k4⟩ := andE hc
  obtain ⟨hc, k3⟩ := andE hc
  obtain ⟨hc, k2⟩ := andE hc
  obtain ⟨k0, k1⟩ := andE hc
  obtain rfl := nqB k2
  obtain rfl := nqB k3
  obtain ⟨t, q_t, h_t⟩ := jag k0
  injection q_t with qa qb
  subst qa
  subst qb
  obtain ⟨v, q_v, h_v⟩ := jag k1
  injection q_v with qa qb
  subst qa
  subst qb
  have e_t : asL (.sl t.length (t.map .str)) = t := jah t
  have e_v : asL (.sl v.length (v.map .str)) = v := jah v
  refine ⟨jao (by kernel_rfl), (jo3 s g t v k).trans ?_⟩
  have hl := h_t.1
  have g4 := nqI k4
  have g5 := jam k5
  have q1 : holds (k ≤ 900000000) = true := jak (by omega)
  have q2 : holds (k + (t.length : Int) ≤ 900000000) = true := jak (by omega)
  rw [e_t, e_v, k0, k1, k4, q1, q2, dT (show (1 : Int) ≤ k + (t.length : Int) by omega), Nat.beq_refl t.length, Nat.beq_refl v.length]
  rfl
 ·cases h
theorem jtx {l : List ByteArray} {k : Int} (h : 0 ≤ szL l k) : szL l k + l.length ≤ k := by
 unfold szL at h ⊢
 by_cases hc : k - (l.length : Int) < 0
 ·rw [dT hc, cond_true] at h; omega
 ·rw [dF hc, cond_false] at h ⊢
  by_cases hd : szX l (k - (l.length : Int)) < 0
  ·rw [dT hd, cond_true] at h; omega
  ·rw [dF hd, cond_false]
   have h1 := jk0 l (k - l.length)
   omega
theorem jrJ {x : NodeT} {k : Int} (h : 0 ≤ szNd x k) (hk : k ≤ 1048576) : szNd x k + x.subs.length ≤ k := by
 unfold szNd at h ⊢
 by_cases hc : k - (x.name.size : Int) < 0
 ·rw [dT hc, cond_true] at h; omega
 ·rw [dF hc, cond_false] at h ⊢
  by_cases hd : szL x.subs (k - (x.name.size : Int)) < 0
  ·rw [dT hd, cond_true] at h; omega
  ·rw [dF hd, cond_false] at h ⊢
   have h1 := jtx (l := x.subs) (k := k - (x.name.size : Int)) (by omega)
   by_cases hf : szL x.subs (k - (x.name.size : Int)) - (x.value.size : Int) < 0
   ·rw [dT hf, cond_true] at h; omega
   ·rw [dF hf, cond_false]
    omega
theorem jlt : ∀ (l : List NodeT) (k j : Int), 0 ≤ szNX l j → j ≤ 1048576 → mkNdE k l ≤ k + 2 * l.length + (j - szNX l j)
 | [], k, j, h, hj => by
  show k ≤ _
  simp [szNX]
 | x :: t, k, j, h, hj => by
  unfold szNX at h ⊢
  by_cases hd : szNd x j < 0
  ·rw [dT hd, cond_true] at h
   omega
  ·rw [dF hd, cond_false] at h
   rw [dF hd, cond_false]
   have h1 := jrJ (x := x) (by omega) hj
   have ih := jlt t (k + 2 + (x.subs.length : Int)) (szNd x j) h (by omega)
   show mkNdE (k + 2 + (x.subs.length : Int)) t ≤ _
   rw [nqH]
   omega
theorem js6 {l : List NodeT} {k : Int} (h : 0 ≤ szTr l k) (hk : k ≤ 1048576) : mkNdE 1 l ≤ 4000000 := by
 unfold szTr szNs at h
 by_cases hc : k - (l.length : Int) < 0
 ·rw [dT hc, cond_true] at h; cases h
 ·rw [dF hc, cond_false] at h
  by_cases hd : szNX l (k - (l.length : Int)) < 0
  ·rw [dT hd, cond_true] at h; cases h
  ·rw [dF hd, cond_false] at h
   have := jlt l 1 (k - l.length) (by omega) (by omega)
   omega
end
section
open Go.RowKit
structure RowT where
 cells : List ByteArray
deriving Inhabited
abbrev pR (x : RowT) : PV := .agg [pL x.cells]
def encRo : List RowT → List PV
 | [] => []
 | x :: t => pL x.cells :: encRo t
abbrev pRs (t : List RowT) : PV := .sl t.length (encRo t)
def shR (x : RowT) : Prop := shL x.cells
def shRs (t : List RowT) : Prop := t.length ≤ 1048576 ∧ ∀ x ∈ t, shR x
theorem ji3 : ∀ {t u : List RowT}, encRo t = encRo u → t = u
 | [], [], _ => rfl
 | [], _ :: _, h => by cases h
 | _ :: _, [], h => by cases h
 | x :: t, y :: u, h => by
  unfold encRo at h
  injection h with h1 h
  have h1 := jew _ _ h1
  have := ji3 h
  cases x; cases y
  simp_all
theorem jtU (t u : List RowT) (h : pRs t = pRs u) : t = u := by injection h with _ h; exact ji3 h
theorem jvG (x y : RowT) (h : pR x = pR y) : x = y := by
 injection h with h
 injection h with h1 h
 have h1 := jew _ _ h1
 cases x; cases y
 simp_all
abbrev isRo (p : PV) : Bool := isE pR shR p
abbrev asRo (p : PV) : RowT := asE pR p
abbrev isRos (p : PV) : Bool := isE pRs shRs p
abbrev asRos (p : PV) : List RowT := asE pRs p
theorem jnp {x : RowT} (h : shR x) : isE pR shR (PV.agg [PV.sl x.cells.length (x.cells.map PV.str)]) = true := jbt (enc := pR) h
theorem jkk (x : RowT) : asE pR (PV.agg [PV.sl x.cells.length (x.cells.map PV.str)]) = x := jeB jvG x
theorem jdR {t : List RowT} (h : shRs t) : isE pRs shRs (PV.sl t.length (encRo t)) = true := jbt (enc := pRs) h
theorem jbr (t : List RowT) : asE pRs (PV.sl t.length (encRo t)) = t := jeB jtU t
theorem jc6 : ∀ (t : List RowT) (i : Nat) (h : i < t.length), (encRo t).drop (i * 1) = .sl t[i].cells.length (t[i].cells.map PV.str) :: encRo (t.drop (i + 1))
 | [], i, h => by cases h
 | x :: t, 0, h => rfl
 | x :: t, i + 1, h => by
  have := jc6 t i (by simpa using h)
  rw [show (i + 1) * 1 = i * 1 + 1 by omega]
  show List.drop (i * 1 + 1) (pL x.cells :: encRo t) = _
  rw [List.drop_succ_cons, this]
  simp only [List.getElem_cons_succ, List.drop_succ_cons]
theorem jh7 : ∀ t u : List RowT, encRo (t ++ u) = encRo t ++ encRo u
 | [], u => rfl
 | x :: t, u => by
  show pL x.cells :: encRo (t ++ u) = _
  rw [jh7 t u]
  rfl
theorem jsn {t : List RowT} (h : shRs t) {i : Nat} (hi : i < t.length) : shR t[i] := h.2 _ (List.getElem_mem hi)
end
section
open Go.RowKit
def mkRo (k : Int) (x : RowT) : RowT := ⟨mkL (k) x.cells⟩
def mkRos : Int → List RowT → List RowT
 | _, [] => []
 | k, x :: t => mkRo k x :: mkRos (k + (x.cells.length : Int)) t
def mkRoE : Int → List RowT → Int
 | k, [] => k
 | k, x :: t => mkRoE (k + (x.cells.length : Int)) t
abbrev jbP : List (Nat × List Nat × List Nat) := [(2, [0, 1, 5], [0, 1]), (1000000, [], [16]), (1000001, [1600288], [])]
abbrev aWRo0 : AV × Option Ob := (.own 0, some (.lst 1 46 0 [] true))
abbrev aWRo (l : List PV) (n : Nat) : AV × Option Ob := (.own 0, some (.dls 1 46 n l true none))
def jfX (ls : LS) : List (Bool × Ex × LS) := match ls with
 | [(.own x, some (.dls 1 e n l true none)), (.pv (.int .i64 k), none), (.pv (.int .i64 i), none)] =>
  [(isRos (.sl n l) && Nat.beq e 46 && Nat.beq x 0 && (i == 0) && decide (1 ≤ k) && holds (k ≤ 100000000) && holds (mkRoE k (asRos (.sl n l)) ≤ 800000000), .exit 0, [aWRo (encRo (mkRos k (asRos (.sl n l)))) n, aI (mkRoE k (asRos (.sl n l)))])]
 | [(.own x, some (.lst 1 e n l true)), (.pv (.int .i64 k), none), (.pv (.int .i64 i), none)] =>
  [(Nat.beq e 46 && Nat.beq x 0 && Nat.beq n 0 && nilB l && (i == 0), .exit 0, [aWRo0, aI k])]
 | _ => []
def jdN : LoopT := fun _ ls => match ls with
 | [(.pv (.sl n l), none), (.pv (.int .i64 k), none), (.pv (.int .i64 i), none)] =>
  [(Nat.beq n 0 && nilB l && (i == 0), .exit 0, [aP (.sl 0 []), aI k])]
 | _ => []
def jdm : LoopT := fun k ls => bif Nat.beq k 2 then jfX ls else []
def juZ (br : Br) (n : Nat) (l : List PV) (k i : Int) := rdB br Tryz.prog kfb1 jbP jdm Tryz.f35 2 [0] [aWRo l n, aI k, aI i]
def jtn (br : Br) (k i : Int) := rdB br Tryz.prog kfb1 jbP jdm Tryz.f35 2 [0] [aWRo0, aI k, aI i]
def jsP (br : Br) (k i : Int) := rdB br Tryz.prog kfb1 jbP jdN Tryz.f35 2 [] [aP (.sl 0 []), aI k, aI i]
def jvq (br : Br) (n : Nat) (l : List PV) (k : Int) := evB br Tryz.prog kfb1 jbP jdm Tryz.f35 [.lk false [] 1 (46 + 2000000) n l [], cI k]
def juf (br : Br) (k : Int) := evB br Tryz.prog kfb1 jbP jdm Tryz.f35 [.lk false [] 1 46 0 [] [], cI k]
def jtl (br : Br) (k : Int) := evB br Tryz.prog kfb1 jbP jdN Tryz.f35 [cP (.sl 0 []), cI k]
def E_mkRoa : Entry := fun ivs => match ivs with
 | [.lk false [] 1 e n l [], .cv (.pv (.int .i64 k))] =>
  [(Nat.beq e (46 + 2000000) && isRos (.sl n l) && mrkB k && holds (mkRoE k (asRos (.sl n l)) ≤ 800000000), cI (mkRoE k (asRos (.sl n l))), [[.dls 1 46 n (encRo (mkRos k (asRos (.sl n l))))]]),
   (Nat.beq e 46 && Nat.beq n 0 && nilB l, cI k, [[.lst 1 46 0 [] true]])]
 | _ => []
def E_mkRob : Entry := fun ivs => match ivs with
 | [.cv (.pv (.sl n l)), .cv (.pv (.int .i64 k))] => [(Nat.beq n 0 && nilB l, cI k, [])]
 | _ => []
def E_mkRo : Entry := fun ivs => E_mkRoa ivs ++ E_mkRob ivs
abbrev jhy : List (Nat × List Nat × List Nat) := [(2, [0, 1, 5], [1])]
def jfT (ls : LS) : List (Bool × Ex × LS) := match ls with
 | [(.pv p, none), (.pv (.int .i64 k), none), (.pv (.int .i64 i), none)] =>
  [(isRos p && (i == 0) && decide (1 ≤ k) && holds (k ≤ 100000000) && holds (mkRoE k (asRos p) ≤ 800000000) && holds (asRos p = mkRos k (asRos p)), .exit 0, [aI (mkRoE k (asRos p))])]
 | _ => []
def jhl : LoopT := fun k ls => bif Nat.beq k 2 then jfT ls else []
def jvD (br : Br) (l : List RowT) (k i : Int) := rdB br Tryz.prog kfb4 jhy jhl Tryz.f36 2 [] [aP (pRs l), aI k, aI i]
def jvH (br : Br) (l : List RowT) (k : Int) := evB br Tryz.prog kfb4 jhy jhl Tryz.f36 [cP (pRs l), cI k]
def E_hdRo : Entry := fun ivs => match ivs with
 | [.cv (.pv p), .cv (.pv (.int .i64 k))] => [(isRos p && mrkB k && holds (mkRoE k (asRos p) ≤ 800000000) && holds (asRos p = mkRos k (asRos p)), cI (mkRoE k (asRos p)), [])]
 | _ => []
def juH (br : Br) (x y : RowT) := evB br Tryz.prog kfb2 [] LO0 Tryz.f23 [cP (pR x), cP (pR y)]
def E_eqRo : Entry := fun ivs => match ivs with
 | [.cv (.pv p), .cv (.pv q)] => [(isRo p && isRo q, cB (holds (asRo p = asRo q)), [])]
 | _ => []
def eqbRo : List (FuncId × Entry) := [(23, E_eqRo)]
abbrev jdz : List (Nat × List Nat × List Nat) := [(4, [0, 1, 5], [0, 4])]
def jd7 (ls : LS) : List (Bool × Ex × LS) := match ls with
 | [(.pv p, none), (.pv q, none), (.pv (.int .i64 i), none)] =>
  [(isRos p && isRos q && (i == 0) && decide ((asRos p).length = (asRos q).length) && holds (asRos p = asRos q), .exit 0, [aP p, aX]),
   (isRos p && isRos q && (i == 0) && decide ((asRos p).length = (asRos q).length), .ret, [aP p, aB false])]
 | _ => []
def jdJ : LoopT := fun k ls => bif Nat.beq k 4 then jd7 ls else []
def jtZ (br : Br) (l u : List RowT) (i : Int) := rdB br Tryz.prog eqbRo jdz jdJ Tryz.f34 4 [] [aP (pRs l), aP (pRs u), aI i]
def js8 (br : Br) (l u : List RowT) := evB br Tryz.prog eqbRo jdz jdJ Tryz.f34 [cP (pRs l), cP (pRs u)]
def E_eqRos : Entry := fun ivs => match ivs with
 | [.cv (.pv p), .cv (.pv q)] => [(isRos p && isRos q, cB (holds (asRos p = asRos q)), [])]
 | _ => []
end
section
theorem jmN (k : Int) : juf brC k =
 brC (Nat.beq 46 46 && Nat.beq 0 0 && Nat.beq 0 0 && nilB [] && 0 == 0)
 (some ((.cv (.pv (.int .i64 k)), [[.lst 1 46 0 [] true]])))
 none := by kernel_rfl
theorem jnV (n : Nat) (l : List PV) (k : Int) : jvq brC n l k =
 brC (isRos (PV.sl n l) && Nat.beq (46 + 2000000 - 2000000) 46 && Nat.beq 0 0 && 0 == 0 && decide (1 ≤ k) && holds (k ≤ 100000000) && holds (mkRoE k (asRos (PV.sl n l)) ≤ 800000000))
 (brC (Nat.beq n n)
 (some ((.cv (.pv (.int .i64 (mkRoE k (asRos (PV.sl n l))))), [[.dls 1 46 n (encRo (mkRos k (asRos (PV.sl n l))))]])))
 none)
 none := by kernel_rfl
theorem jmm (k : Int) (i : Int) : jsP brC k i =
 brC (decide (i < (↑0 : Int)))
 (brC (decide (0 ≤ i) && decide (i < (↑0 : Int)))
 (brC (Nat.blt 0 (List.length (List.drop 0 (List.drop (Int.toNat i * 1) ([] : List PV)))) && PV.isSl (List.headD (List.drop 0 (List.drop (Int.toNat i * 1) ([] : List PV))) PV.nilp) && true)
 none
 none)
 none)
 (some (.inr (.exit 0, [(.pv (.sl 0 []), none), (.pv (.int .i64 k), none)]))) := by kernel_rfl
theorem jiO (n : Nat) (l : List PV) (k : Int) (i : Int) : juZ brC n l k i =
 brC (decide (i < (↑n : Int)))
 (brC (decide (0 ≤ i) && decide (i < (↑n : Int)))
 (brC (Nat.blt (Int.toNat i * 1 + 0) (List.length l) && (PV.isSl (List.headD (List.drop (Int.toNat i * 1 + 0) l) PV.nilp) && isKid 46 1 (Int.toNat i * 1 + 0) 1 9))
 (brC (isL (PV.sl (PV.slN (List.headD (List.drop (Int.toNat i * 1 + 0) l) PV.nilp)) (PV.slL (List.headD (List.drop (Int.toNat i * 1 + 0) l) PV.nilp))) && Nat.beq 9 9 && decide (1 ≤ k) && holds (k ≤ 900000000))
 (some (.inl [(.own 0, some (.dls 1 46 n (List.take (Int.toNat i * 1 + 0) l ++ [PV.sl (PV.slN (List.headD (List.drop (Int.toNat i * 1 + 0) l) PV.nilp)) (List.map PV.str (mkL k (asL (PV.sl (PV.slN (List.headD (List.drop (Int.toNat i * 1 + 0) l) PV.nilp)) (PV.slL (List.headD (List.drop (Int.toNat i * 1 + 0) l) PV.nilp))))))] ++ List.drop (Int.toNat i * 1 + 0 + 1) l) true none)), (.pv (.int .i64 (k + (↑(List.length (asL (PV.sl (PV.slN (List.headD (List.drop (Int.toNat i * 1 + 0) l) PV.nilp)) (PV.slL (List.headD (List.drop (Int.toNat i * 1 + 0) l) PV.nilp))))) : Int))), none), (.pv (.int .i64 (IntKind.wrap .i64 (i + 1))), none)]))
 none)
 none)
 none)
 (some (.inr (.exit 0, [(.own 0, some (.dls 1 46 n l true none)), (.pv (.int .i64 k), none)]))) := by kernel_rfl
theorem jm4 (k : Int) : jtl brC k =
 brC (Nat.beq 0 0 && nilB [] && 0 == 0)
 (some ((.cv (.pv (.int .i64 k)), [])))
 none := by kernel_rfl
theorem jgM (l : List RowT) (u : List RowT) (i : Int) : jtZ brC l u i =
 brC (decide (i < (↑(List.length l) : Int)))
 (brC (decide (0 ≤ i) && decide (i < (↑(List.length l) : Int)))
 (brC (Nat.ble 1 (List.length (List.drop (Int.toNat i * 1) (encRo l))) && (PV.isSl (List.headD (List.drop (Int.toNat i * 1) (encRo l)) PV.nilp) && true && true) && true)
 (brC (decide (0 ≤ i) && decide (i < (↑(List.length u) : Int)))
 (brC (Nat.ble 1 (List.length (List.drop (Int.toNat i * 1) (encRo u))) && (PV.isSl (List.headD (List.drop (Int.toNat i * 1) (encRo u)) PV.nilp) && true && true) && true)
 (brC (isRo (PV.agg [PV.sl (PV.slN (List.headD (List.drop (Int.toNat i * 1) (encRo l)) PV.nilp)) (PV.slL (List.headD (List.drop (Int.toNat i * 1) (encRo l)) PV.nilp))]) && isRo (PV.agg [PV.sl (PV.slN (List.headD (List.drop (Int.toNat i * 1) (encRo u)) PV.nilp)) (PV.slL (List.headD (List.drop (Int.toNat i * 1) (encRo u)) PV.nilp))]))
 (brC (!holds (asRo (PV.agg [PV.sl (PV.slN (List.headD (List.drop (Int.toNat i * 1) (encRo l)) PV.nilp)) (PV.slL (List.headD (List.drop (Int.toNat i * 1) (encRo l)) PV.nilp))]) = asRo (PV.agg [PV.sl (PV.slN (List.headD (List.drop (Int.toNat i * 1) (encRo u)) PV.nilp)) (PV.slL (List.headD (List.drop (Int.toNat i * 1) (encRo u)) PV.nilp))])))
 (some (.inr (.ret, [(.pv (.sl (List.length l) (encRo l)), none), (.pv (.bool false), none)])))
 (some (.inl [(.pv (.sl (List.length l) (encRo l)), none), (.pv (.sl (List.length u) (encRo u)), none), (.pv (.int .i64 (IntKind.wrap .i64 (i + 1))), none)])))
 none)
 none)
 none)
 none)
 none)
 (some (.inr (.exit 0, [(.pv (.sl (List.length l) (encRo l)), none), (.bad, none)]))) := by kernel_rfl
theorem ji6 (l : List RowT) (k : Int) (i : Int) : jvD brC l k i =
 brC (decide (i < (↑(List.length l) : Int)))
 (brC (decide (0 ≤ i) && decide (i < (↑(List.length l) : Int)))
 (brC (Nat.blt 0 (List.length (List.drop 0 (List.drop (Int.toNat i * 1) (encRo l)))) && PV.isSl (List.headD (List.drop 0 (List.drop (Int.toNat i * 1) (encRo l))) PV.nilp) && true)
 (brC (isL (PV.sl (PV.slN (List.headD (List.drop 0 (List.drop (Int.toNat i * 1) (encRo l))) PV.nilp)) (PV.slL (List.headD (List.drop 0 (List.drop (Int.toNat i * 1) (encRo l))) PV.nilp))) && decide (1 ≤ k) && holds (k ≤ 900000000) && holds (asL (PV.sl (PV.slN (List.headD (List.drop 0 (List.drop (Int.toNat i * 1) (encRo l))) PV.nilp)) (PV.slL (List.headD (List.drop 0 (List.drop (Int.toNat i * 1) (encRo l))) PV.nilp))) = mkL k (asL (PV.sl (PV.slN (List.headD (List.drop 0 (List.drop (Int.toNat i * 1) (encRo l))) PV.nilp)) (PV.slL (List.headD (List.drop 0 (List.drop (Int.toNat i * 1) (encRo l))) PV.nilp))))))
 (brC (decide (k + (↑(List.length (asL (PV.sl (PV.slN (List.headD (List.drop 0 (List.drop (Int.toNat i * 1) (encRo l))) PV.nilp)) (PV.slL (List.headD (List.drop 0 (List.drop (Int.toNat i * 1) (encRo l))) PV.nilp))))) : Int) < 0))
 (some (.inr (.ret, [(.pv (.int .i64 (k + (↑(List.length (asL (PV.sl (PV.slN (List.headD (List.drop 0 (List.drop (Int.toNat i * 1) (encRo l))) PV.nilp)) (PV.slL (List.headD (List.drop 0 (List.drop (Int.toNat i * 1) (encRo l))) PV.nilp))))) : Int))), none)])))
 (some (.inl [(.pv (.sl (List.length l) (encRo l)), none), (.pv (.int .i64 (k + (↑(List.length (asL (PV.sl (PV.slN (List.headD (List.drop 0 (List.drop (Int.toNat i * 1) (encRo l))) PV.nilp)) (PV.slL (List.headD (List.drop 0 (List.drop (Int.toNat i * 1) (encRo l))) PV.nilp))))) : Int))), none), (.pv (.int .i64 (IntKind.wrap .i64 (i + 1))), none)])))
 none)
 none)
 none)
 (some (.inr (.exit 0, [(.pv (.int .i64 k), none)]))) := by kernel_rfl
theorem joZ (l : List RowT) (k : Int) : jvH brC l k =
 brC (isRos (pRs l) && 0 == 0 && decide (1 ≤ k) && holds (k ≤ 100000000) && holds (mkRoE k (asRos (pRs l)) ≤ 800000000) && holds (asRos (pRs l) = mkRos k (asRos (pRs l))))
 (some ((.cv (.pv (.int .i64 (mkRoE k (asRos (pRs l))))), [])))
 none := by kernel_rfl
theorem jmG (l : List RowT) (u : List RowT) : js8 brC l u =
 brC ((↑(List.length l) : Int) != (↑(List.length u) : Int))
 (some ((.cv (.pv (.bool false)), [])))
 (brC (isRos (pRs l) && isRos (pRs u) && 0 == 0 && decide (List.length (asRos (pRs l)) = List.length (asRos (pRs u))) && holds (asRos (pRs l) = asRos (pRs u)))
 (some ((.cv (.pv (.bool true)), [])))
 (brC (isRos (pRs l) && isRos (pRs u) && 0 == 0 && decide (List.length (asRos (pRs l)) = List.length (asRos (pRs u))))
 (some ((.cv (.pv (.bool false)), [])))
 none)) := by kernel_rfl
theorem jpa (x : RowT) (y : RowT) : juH brC x y =
 brC (isL (PV.sl (List.length (RowT.cells x)) (List.map PV.str (RowT.cells x))) && isL (PV.sl (List.length (RowT.cells y)) (List.map PV.str (RowT.cells y))))
 (brC (!holds (asL (PV.sl (List.length (RowT.cells x)) (List.map PV.str (RowT.cells x))) = asL (PV.sl (List.length (RowT.cells y)) (List.map PV.str (RowT.cells y)))))
 (some ((.cv (.pv (.bool false)), [])))
 (some ((.cv (.pv (.bool true)), []))))
 none := by kernel_rfl
theorem jmv (k : Int) (i : Int) : jtn brC k i =
 brC (decide (i < (↑0 : Int)))
 (brC (decide (0 ≤ i) && decide (i < (↑0 : Int)))
 (brC (Nat.ble (Int.toNat i * 1 + 0) 0 && (Nat.blt 0 (List.length (List.drop (Int.toNat i * 1 + 0) ([] : List PV))) && PV.isSl (List.headD (List.drop (Int.toNat i * 1 + 0) ([] : List PV)) PV.nilp) && true))
 none
 none)
 none)
 (some (.inr (.exit 0, [(.own 0, some (.lst 1 46 0 [] true)), (.pv (.int .i64 k), none)]))) := by kernel_rfl
end
end
end Go.Proofs.YtbeebeamdjbkmaaGreatDoor
