import Derived.Test.YtbeebeamdjbkmaaGreatDoorXXh
import Derived.Test.YtbeebeamdjbkmaaGreatDoorXXi
import Derived.Laws.Externs
import Derived.WalkKit
import Derived.Lib.Walk
import Derived.Lib.SliceRun
import Derived.OwnWalk
import Derived.Laws.Cover3
import Derived.Test.YtbeebeamdjbkmaaGreatDoorXXg
import Derived.Test.YtbeebeamdjbkmaaGreatDoorXXe
import Derived.Test.YtbeebeamdjbkmaaGreatDoorXXf
namespace Go.Proofs.YtbeebeamdjbkmaaGreatDoor
noncomputable section
set_option linter.unusedVariables false
set_option linter.unusedSimpArgs false
set_option maxRecDepth 100000
section
open Go.RowKit
def rwN (b : TblT) (x : NodeT) : Bool := (x.name.toList == b.glob.toList) && (decide (x.subs.length = 2) && ((x.subs.headD ⟨#[]⟩).toList == [114]))
def noR (b : TblT) (x : NodeT) : Bool := !rwN b x
def keepR (t : List NodeT) (b : TblT) : List NodeT := t.filter fun x => !noR b x
def q_isR (br : Br) (b : TblT) (x : NodeT) := evB br Tryz.prog [] [] LO0 Tryz.f111 [cP (pTb b),cP (pN x)]
def E_isR : Entry := fun ivs => match ivs with
 | [.cv (.pv p),.cv (.pv q)] => [(isTb p && isN q,cB (rwN (asTb p) (asN q)),[])]
 | _ => []
def scb1 : List (FuncId × Entry) := [(111,E_isR)]
abbrev rcl (b : TblT) : PV := .clo 110 [.ref [.str b.name,.str b.glob,pL b.cols,pL b.idxs]]
def q_rn1 (br : Br) (x : NodeT) (b : TblT) := evB br Tryz.prog scb1 [] LO0 Tryz.f110 [cP (pN x),cP (.ref [.str b.name,.str b.glob,pL b.cols,pL b.idxs])]
def E_rn1 : Entry := fun ivs => match ivs with
 | [.cv (.pv p),.cv (.pv (.ref [.str s,.str g,q,r]))] => [(isN p && isTb (.agg [.str s,.str g,q,r]),cB (noR (asTb (.agg [.str s,.str g,q,r])) (asN p)),[])]
 | _ => []
def scb2 : List (FuncId × Entry) := (110,E_rn1) :: scb1
def goIdR (t : List NodeT) (b : TblT) : Nat := (t.takeWhile fun x => !noR b x).length
abbrev jhh : List (Nat × List Nat × List Nat) := [(2,[0,1,7,8],[4])]
def jfw : LoopT := fun _ ls => match ls with
 | [(.pv p,none),(.pv (.clo f [.ref [.str s,.str g,q,r]]),none),(.pv (.int .i64 n),none),(.pv (.int .i64 i),none)] =>
  [(isNs p && isTb (.agg [.str s,.str g,q,r]) && Nat.beq f 110 && (n == ((asNs p).length : Int)) && (i == 0) && decide (goIdR (asNs p) (asTb (.agg [.str s,.str g,q,r])) < (asNs p).length),.ret,[aI (goIdR (asNs p) (asTb (.agg [.str s,.str g,q,r])))]),
   (isNs p && isTb (.agg [.str s,.str g,q,r]) && Nat.beq f 110 && (n == ((asNs p).length : Int)) && (i == 0),.exit 0,[aX])]
 | _ => []
def jwN (br : Br) (t : List NodeT) (b : TblT) (i : Int) := rdB br Tryz.prog scb2 jhh jfw Tryz.f112 2 [] [aP (pNs t),aP (rcl b),aI t.length,aI i]
def jwj (br : Br) (t : List NodeT) (b : TblT) := evB br Tryz.prog scb2 jhh jfw Tryz.f112 [cP (pNs t),cP (rcl b)]
def E_IdxR : Entry := fun ivs => match ivs with
 | [.cv (.pv p),.cv (.pv (.clo f [.ref [.str s,.str g,q,r]]))] => [(isNs p && isTb (.agg [.str s,.str g,q,r]) && Nat.beq f 110,cI (if goIdR (asNs p) (asTb (.agg [.str s,.str g,q,r])) < (asNs p).length then goIdR (asNs p) (asTb (.agg [.str s,.str g,q,r])) else -1),[])]
 | _ => []
def scb3 : List (FuncId × Entry) := (112,E_IdxR) :: scb2
abbrev jem : List (Nat × List Nat × List Nat) := [(1000000,[38],[]),(5,[0,1,5,6],[0,5])]
def jdj : LoopT := fun _ ls => match ls with
 | [(.own x,some (.lst 3 e n l true)),(.pv (.clo f [.ref [.str s,.str g,q,r]]),none),(.pv (.int .i64 i),none),(.pv (.int .i64 j),none)] =>
  [(isNs (.sl n l) && isTb (.agg [.str s,.str g,q,r]) && Nat.beq f 110 && Nat.beq e 70 && Nat.beq x 0 && (i == (goIdR (asNs (.sl n l)) (asTb (.agg [.str s,.str g,q,r])) : Int)) && (j == ((goIdR (asNs (.sl n l)) (asTb (.agg [.str s,.str g,q,r])) : Int) + 1)) && decide (goIdR (asNs (.sl n l)) (asTb (.agg [.str s,.str g,q,r])) < (asNs (.sl n l)).length),
   .exit 0,[aM 0 3 70 n (encN (keepR (asNs (.sl n l)) (asTb (.agg [.str s,.str g,q,r])) ++ (asNs (.sl n l)).drop (keepR (asNs (.sl n l)) (asTb (.agg [.str s,.str g,q,r]))).length)),aI (keepR (asNs (.sl n l)) (asTb (.agg [.str s,.str g,q,r]))).length])]
 | _ => []
def jxb (br : Br) (u : List NodeT) (b : TblT) (i j : Int) := rdB br Tryz.prog scb3 jem jdj Tryz.f108 5 [] [aM 0 3 70 u.length (encN u),aP (rcl b),aI i,aI j]
def jw2 (br : Br) (t : List NodeT) (b : TblT) := evB br Tryz.prog scb3 jem jdj Tryz.f108 [.cv (lN t),cP (rcl b)]
def juV (br : Br) (b : TblT) := evB br Tryz.prog scb3 jem jdj Tryz.f108 [cP (.sl 0 []),cP (rcl b)]
def E_DelR : Entry := fun ivs => match ivs with
 | [.cv (.lst 3 e n l true),.cv (.pv (.clo f [.ref [.str s,.str g,q,r]]))] =>
  [(isNs (.sl n l) && isTb (.agg [.str s,.str g,q,r]) && Nat.beq f 110 && Nat.beq e 70 && decide (goIdR (asNs (.sl n l)) (asTb (.agg [.str s,.str g,q,r])) < (asNs (.sl n l)).length),cP (pNs (keepR (asNs (.sl n l)) (asTb (.agg [.str s,.str g,q,r])))),[]),
   (isNs (.sl n l) && isTb (.agg [.str s,.str g,q,r]) && Nat.beq f 110 && Nat.beq e 70,.cv (.lst 3 70 n l true),[])]
 | [.cv (.pv (.sl 0 [])),.cv (.pv (.clo f [.ref [.str s,.str g,q,r]]))] => [(isTb (.agg [.str s,.str g,q,r]) && Nat.beq f 110,cP (.sl 0 []),[])]
 | _ => []
def jxq (br : Br) (x : NodeT) (t : List NodeT) := evB br Tryz.prog [] [(1000000,[5,7],[])] LO0 Tryz.f109 [cP (.sl (t.length + 1) (.str x.name :: .sl x.subs.length (x.subs.map .str) :: .str x.value :: encN t))]
def E_CloN1 : Entry := fun ivs => match ivs with | [.cv (.pv p)] => [(isNs p && decide (1 ≤ (asNs p).length),.cv (.lst 3 70 (asNs p).length (encN (asNs p)) true),[])] | _ => []
def E_CloN0 : Entry := fun ivs => match ivs with | [.cv (.pv (.sl n l))] => [(Nat.beq n 0 && nilB l,cP (.sl 0 []),[])] | _ => []
def E_CloN : Entry := fun ivs => E_CloN0 ivs ++ E_CloN1 ivs
def scb4 : List (FuncId × Entry) := (108,E_DelR) :: (109,E_CloN) :: scb3
def juj (br : Br) (t : List NodeT) (b : TblT) := evB br Tryz.prog scb4 [(1000001,[144],[])] LO0 Tryz.f78 [cP (pT t),cP (pTb b)]
def E_rowNs : Entry := fun ivs => match ivs with
 | [.cv (.pv p),.cv (.pv q)] => [(isT p && isTb q,cP (pNs (keepR (asT p) (asTb q))),[])]
 | _ => []
def jtI (br : Br) (b : TblT) (k v : ByteArray) := evB br Tryz.prog pbb4 [(1000000,[10,20],[23,27,33]),(2000016,[8,0,17],[])] LO0 Tryz.f98 [cP (pTb b),cS k,cS v]
def E_unpM : Entry := fun ivs => match ivs with
 | [.cv (.pv p),.cv (.pv (.str k)),.cv (.pv (.str v))] =>
  [(isTb p && decide (k.size ≤ 50000) && decide (v.size ≤ 50000) && tblB (asTb p) && unpB (asTb p) k v,.tup [.agg [.lst 1 9 (jax (asTb p) k v).length ((jax (asTb p) k v).map .str) true],cI 0],[]),
   (isTb p && decide (k.size ≤ 50000) && decide (v.size ≤ 50000) && tblB (asTb p),.tup [.agg [.pv .nils],cI 14],[])]
 | _ => []
def nodR (l : List NodeT) : Bool := l.all fun x => decide (x.subs.length = 2) && (decide ((x.subs.getD 1 ⟨#[]⟩).size ≤ 24) && decide (x.value.size ≤ 64))
abbrev bxTb (slot : Nat) (b : TblT) : AV × Option Ob := aBx slot [.pv (.str b.name),.pv (.str b.glob),.pv (pL b.cols),.pv (pL b.idxs)]
abbrev jmz : List (Nat × List Nat × List Nat) := [(3,[2,3,5,6],[5])]
abbrev aFn (slot : Nat) (l : List NodeT) : AV × Option Ob := (.own (4096 * slot),some (.lst 3 70 l.length (encN l) false))
def jht (ls : LS) : List (Bool × Ex × LS) := match ls with
 | [(.ptr y 0,some (.box [.pv p])),(.ptr x 0,some (.box [.pv (.str s),.pv (.str g),.pv q,.pv r])),(.own z,some (.lst 3 e n l false)),(.pv (.int .i64 i),none)] =>
  [(isTb (.agg [.str s,.str g,q,r]) && isNs p && Nat.beq y 8192 && Nat.beq x 12288 && Nat.beq z 20480 && Nat.beq e 70 && Nat.beq n 0 && nilB l && (i == 0),.exit 0,[aFn 5 (keepR (asNs p) (asTb (.agg [.str s,.str g,q,r])))])]
 | _ => []
def jlA : LoopT := fun k ls => bif Nat.beq k 3 then jht ls else []
def r_lns (br : Br) (t : List NodeT) (b : TblT) (u : List NodeT) (i : Int) := rdB br Tryz.prog [] jmz jlA Tryz.f75 3 [] [aBx 2 [.pv (pNs t)],bxTb 3 b,aFn 5 u,aI i]
def q_lns (br : Br) (t : List NodeT) (b : TblT) := evB br Tryz.prog [] jmz jlA Tryz.f75 [cP (pT t),cP (pTb b)]
end
section
theorem ji6 (u : List NodeT) (b : TblT) (i : Int) (j : Int) : jxb brC u b i j = brC (decide (j < (↑u.length : Int))) (brC (decide (0 ≤ j) && decide (j < (↑u.length : Int))) (brC (Nat.ble (Int.toNat j * 3) (List.length (encN u)) && (Nat.ble 3 (List.length (List.drop (Int.toNat j * 3) (encN u))) && (PV.isStr (List.headD (List.drop (Int.toNat j * 3) (encN u)) PV.nilp) && (PV.isSl (List.headD (List.tail (List.drop (Int.toNat j * 3) (encN u))) PV.nilp) && (PV.isStr (List.headD (List.tail (List.tail (List.drop (Int.toNat j * 3) (encN u)))) PV.nilp) && true && true) && true) && true) && true)) (brC (isN (PV.agg [PV.str (PV.asStr (List.headD (List.drop (Int.toNat j * 3) (encN u)) PV.nilp)),PV.sl (PV.slN (List.headD (List.tail (List.drop (Int.toNat j * 3) (encN u))) PV.nilp)) (PV.slL (List.headD (List.tail (List.drop (Int.toNat j * 3) (encN u))) PV.nilp)),PV.str (PV.asStr (List.headD (List.tail (List.tail (List.drop (Int.toNat j * 3) (encN u)))) PV.nilp))]) && isTb (PV.agg [PV.str b.name,PV.str b.glob,pL b.cols,pL b.idxs])) (brC (!noR (asTb (PV.agg [PV.str b.name,PV.str b.glob,pL b.cols,pL b.idxs])) (asN (PV.agg [PV.str (PV.asStr (List.headD (List.drop (Int.toNat j * 3) (encN u)) PV.nilp)),PV.sl (PV.slN (List.headD (List.tail (List.drop (Int.toNat j * 3) (encN u))) PV.nilp)) (PV.slL (List.headD (List.tail (List.drop (Int.toNat j * 3) (encN u))) PV.nilp)),PV.str (PV.asStr (List.headD (List.tail (List.tail (List.drop (Int.toNat j * 3) (encN u)))) PV.nilp))]))) (brC (decide (0 ≤ i) && decide (i < (↑u.length : Int))) (brC (Nat.beq (List.length [PV.str (PV.asStr (List.headD (List.drop (Int.toNat j * 3) (encN u)) PV.nilp)),PV.sl (PV.slN (List.headD (List.tail (List.drop (Int.toNat j * 3) (encN u))) PV.nilp)) (PV.slL (List.headD (List.tail (List.drop (Int.toNat j * 3) (encN u))) PV.nilp)),PV.str (PV.asStr (List.headD (List.tail (List.tail (List.drop (Int.toNat j * 3) (encN u)))) PV.nilp))]) 3 && Nat.ble (Int.toNat i * 3 + 3) (List.length (encN u))) (some (.inl [(.own 0,some (.lst 3 70 u.length (List.take (Int.toNat i * 3) (encN u) ++ [PV.str (PV.asStr (List.headD (List.drop (Int.toNat j * 3) (encN u)) PV.nilp)),PV.sl (PV.slN (List.headD (List.tail (List.drop (Int.toNat j * 3) (encN u))) PV.nilp)) (PV.slL (List.headD (List.tail (List.drop (Int.toNat j * 3) (encN u))) PV.nilp)),PV.str (PV.asStr (List.headD (List.tail (List.tail (List.drop (Int.toNat j * 3) (encN u)))) PV.nilp))] ++ List.drop (Int.toNat i * 3 + 3) (encN u)) true)),(.pv (PV.clo 110 [PV.ref [PV.str b.name,PV.str b.glob,PV.sl b.cols.length (List.map PV.str b.cols),PV.sl b.idxs.length (List.map PV.str b.idxs)]]),none),(.pv (.int .i64 (IntKind.wrap .i64 (i + 1))),none),(.pv (.int .i64 (IntKind.wrap .i64 (j + 1))),none)])) none) none) (some (.inl [(.own 0,some (.lst 3 70 u.length (encN u) true)),(.pv (PV.clo 110 [PV.ref [PV.str b.name,PV.str b.glob,PV.sl b.cols.length (List.map PV.str b.cols),PV.sl b.idxs.length (List.map PV.str b.idxs)]]),none),(.pv (.int .i64 i),none),(.pv (.int .i64 (IntKind.wrap .i64 (j + 1))),none)]))) none) none) none) (some (.inr (.exit 0,[(.own 0,some (.lst 3 70 u.length (encN u) true)),(.pv (.int .i64 i),none)]))) := by kernel_rfl
theorem jn9 (b : TblT) : juV brC b = brC (isNs (PV.sl 0 []) && isTb (PV.agg [PV.str b.name,PV.str b.glob,pL b.cols,pL b.idxs]) && Nat.beq 110 110) (brC ((if goIdR (asNs (PV.sl 0 [])) (asTb (PV.agg [PV.str b.name,PV.str b.glob,pL b.cols,pL b.idxs])) < List.length (asNs (PV.sl 0 [])) then (↑(goIdR (asNs (PV.sl 0 [])) (asTb (PV.agg [PV.str b.name,PV.str b.glob,pL b.cols,pL b.idxs]))) : Int) else -1) == -1) (some ((.cv (.pv (.sl 0 [])),[]))) none) none := by kernel_rfl
theorem jiI (t : List NodeT) (b : TblT) (i : Int) : jwN brC t b i = brC (decide (i < (↑t.length : Int))) (brC (decide (0 ≤ i) && decide (i < (↑t.length : Int))) (brC (Nat.ble 3 (List.length (List.drop (Int.toNat i * 3) (encN t))) && (PV.isStr (List.headD (List.drop (Int.toNat i * 3) (encN t)) PV.nilp) && (PV.isSl (List.headD (List.tail (List.drop (Int.toNat i * 3) (encN t))) PV.nilp) && (PV.isStr (List.headD (List.tail (List.tail (List.drop (Int.toNat i * 3) (encN t)))) PV.nilp) && true && true) && true) && true) && true) (brC (isN (PV.agg [PV.str (PV.asStr (List.headD (List.drop (Int.toNat i * 3) (encN t)) PV.nilp)),PV.sl (PV.slN (List.headD (List.tail (List.drop (Int.toNat i * 3) (encN t))) PV.nilp)) (PV.slL (List.headD (List.tail (List.drop (Int.toNat i * 3) (encN t))) PV.nilp)),PV.str (PV.asStr (List.headD (List.tail (List.tail (List.drop (Int.toNat i * 3) (encN t)))) PV.nilp))]) && isTb (PV.agg [PV.str b.name,PV.str b.glob,pL b.cols,pL b.idxs])) (brC (noR (asTb (PV.agg [PV.str b.name,PV.str b.glob,pL b.cols,pL b.idxs])) (asN (PV.agg [PV.str (PV.asStr (List.headD (List.drop (Int.toNat i * 3) (encN t)) PV.nilp)),PV.sl (PV.slN (List.headD (List.tail (List.drop (Int.toNat i * 3) (encN t))) PV.nilp)) (PV.slL (List.headD (List.tail (List.drop (Int.toNat i * 3) (encN t))) PV.nilp)),PV.str (PV.asStr (List.headD (List.tail (List.tail (List.drop (Int.toNat i * 3) (encN t)))) PV.nilp))]))) (some (.inr (.ret,[(.pv (.int .i64 i),none)]))) (some (.inl [(.pv (.sl t.length (encN t)),none),(.pv (PV.clo 110 [PV.ref [PV.str b.name,PV.str b.glob,PV.sl b.cols.length (List.map PV.str b.cols),PV.sl b.idxs.length (List.map PV.str b.idxs)]]),none),(.pv (.int .i64 (↑t.length : Int)),none),(.pv (.int .i64 (IntKind.wrap .i64 (i + 1))),none)]))) none) none) none) (some (.inr (.exit 0,[(.bad,none)]))) := by kernel_rfl
theorem jo1 (t : List NodeT) (b : TblT) : jwj brC t b = brC (isNs (pNs t) && isTb (PV.agg [PV.str b.name,PV.str b.glob,pL b.cols,pL b.idxs]) && Nat.beq 110 110 && (↑t.length : Int) == (↑(List.length (asNs (pNs t))) : Int) && 0 == 0 && decide (goIdR (asNs (pNs t)) (asTb (PV.agg [PV.str b.name,PV.str b.glob,pL b.cols,pL b.idxs])) < List.length (asNs (pNs t)))) (some ((.cv (.pv (.int .i64 (↑(goIdR (asNs (pNs t)) (asTb (PV.agg [PV.str b.name,PV.str b.glob,pL b.cols,pL b.idxs]))) : Int))),[]))) (brC (isNs (pNs t) && isTb (PV.agg [PV.str b.name,PV.str b.glob,pL b.cols,pL b.idxs]) && Nat.beq 110 110 && (↑t.length : Int) == (↑(List.length (asNs (pNs t))) : Int) && 0 == 0) (some ((.cv (.pv (.int .i64 (Int.negSucc 0))),[]))) none) := by kernel_rfl
def zzao0 (t : List NodeT) (b : TblT) := (PV.sl (List.length (asNs (PV.sl (List.length t) (encN t)))) (encN (asNs (PV.sl (List.length t) (encN t)))))
theorem jm6 (t : List NodeT) (b : TblT) : juj brC t b = brC (Nat.beq t.length 0 && nilB (encN t)) (brC (isTb (PV.agg [PV.str b.name,PV.str b.glob,pL b.cols,pL b.idxs]) && Nat.beq 110 110) (some ((.cv (.pv (.sl 0 [])),[]))) none) (brC (isNs (PV.sl t.length (encN t)) && decide (1 ≤ List.length (asNs (PV.sl t.length (encN t))))) (brC (isNs (zzao0 t b) && isTb (PV.agg [PV.str b.name,PV.str b.glob,pL b.cols,pL b.idxs]) && Nat.beq 110 110 && Nat.beq 70 70 && decide (goIdR (asNs (zzao0 t b)) (asTb (PV.agg [PV.str b.name,PV.str b.glob,pL b.cols,pL b.idxs])) < List.length (asNs (zzao0 t b)))) (some ((.cv (.pv (.sl (List.length (keepR (asNs (zzao0 t b)) (asTb (PV.agg [PV.str b.name,PV.str b.glob,pL b.cols,pL b.idxs])))) (encN (keepR (asNs (zzao0 t b)) (asTb (PV.agg [PV.str b.name,PV.str b.glob,pL b.cols,pL b.idxs])))))),[]))) (brC (isNs (zzao0 t b) && isTb (PV.agg [PV.str b.name,PV.str b.glob,pL b.cols,pL b.idxs]) && Nat.beq 110 110 && Nat.beq 70 70) (some ((.cv (.lst 3 70 (List.length (asNs (PV.sl t.length (encN t)))) (encN (asNs (PV.sl t.length (encN t)))) true),[]))) none)) none) := by kernel_rfl
def zzap0 (x : NodeT) (b : TblT) := (PV.agg [PV.str (PV.asStr (List.headD [PV.str (TblT.name b),PV.str (TblT.glob b),pL (TblT.cols b),pL (TblT.idxs b)] PV.nilp)),PV.str (PV.asStr (List.headD [PV.str (TblT.glob b),pL (TblT.cols b),pL (TblT.idxs b)] PV.nilp)),PV.sl (PV.slN (List.headD [pL (TblT.cols b),pL (TblT.idxs b)] PV.nilp)) (PV.slL (List.headD [pL (TblT.cols b),pL (TblT.idxs b)] PV.nilp)),PV.sl (PV.slN (List.headD [pL (TblT.idxs b)] PV.nilp)) (PV.slL (List.headD [pL (TblT.idxs b)] PV.nilp))])
theorem jsu (x : NodeT) (b : TblT) : q_rn1 brC x b = brC (isTb (zzap0 x b) && isN (PV.agg [PV.str x.name,PV.sl x.subs.length (List.map PV.str x.subs),PV.str x.value])) (some ((.cv (.pv (.bool !rwN (asTb (zzap0 x b)) (asN (PV.agg [PV.str x.name,PV.sl x.subs.length (List.map PV.str x.subs),PV.str x.value])))),[]))) none := by kernel_rfl
def zzaq0 (b : TblT) (k : ByteArray) (v : ByteArray) := (PV.agg [PV.str (TblT.name b),PV.str (TblT.glob b),PV.sl (List.length (TblT.cols b)) (List.map PV.str (TblT.cols b)),PV.sl (List.length (TblT.idxs b)) (List.map PV.str (TblT.idxs b))])
def zzaq1 (b : TblT) (k : ByteArray) (v : ByteArray) := (PV.agg [PV.sl (1 + List.length (cutV v)) (PV.str k :: List.append._f [] PUnit.unit (List.map PV.str (cutV v)))])
theorem jqz (b : TblT) (k : ByteArray) (v : ByteArray) : jtI brC b k v = brC (decide ((↑b.cols.length : Int) > 1)) (brC (decide (ByteArray.size v ≤ 1048576) && holds (jkb { data := #[94] })) (brC (Nat.beq (List.length (List.map PV.str (cutV v))) (List.length (cutV v) * 1) && (decide (1 + List.length (cutV v) ≤ 140737488351232) && decide ((1 + List.length (cutV v)) * 16 ≤ 140737488355328))) (brC (isTb (zzaq0 b k v) && isRw (zzaq1 b k v) && decide (1 ≤ List.length (TblT.cols (asTb (zzaq0 b k v))))) (brC (!rowB (asTb (zzaq0 b k v)) (asRw (zzaq1 b k v))) (some ((.tup [.agg [.pv .nils],.cv (.pv (.int .i64 (Int.ofNat 14)))],[]))) (brC (isRw (zzaq1 b k v) && decide (1 ≤ List.length (asRw (zzaq1 b k v))) && decide (List.length (packL (asRw (zzaq1 b k v))) ≤ 1048576)) (brC (!ByteArray.toList (bs (packL (asRw (zzaq1 b k v)))) == ByteArray.toList v) (some ((.tup [.agg [.pv .nils],.cv (.pv (.int .i64 (Int.ofNat 14)))],[]))) (some ((.tup [.agg [.lst 1 9 (1 + List.length (cutV v)) (PV.str k :: List.append._f [] PUnit.unit (List.map PV.str (cutV v))) true],.cv (.pv (.int .i64 (Int.ofNat 0)))],[])))) none)) none) none) none) (brC (isTb (zzaq0 b k v) && isRw (PV.agg [PV.sl 1 [PV.str k]]) && decide (1 ≤ List.length (TblT.cols (asTb (zzaq0 b k v))))) (brC (!rowB (asTb (zzaq0 b k v)) (asRw (PV.agg [PV.sl 1 [PV.str k]]))) (some ((.tup [.agg [.pv .nils],.cv (.pv (.int .i64 (Int.ofNat 14)))],[]))) (brC (isRw (PV.agg [PV.sl 1 [PV.str k]]) && decide (1 ≤ List.length (asRw (PV.agg [PV.sl 1 [PV.str k]]))) && decide (List.length (packL (asRw (PV.agg [PV.sl 1 [PV.str k]]))) ≤ 1048576)) (brC (!ByteArray.toList (bs (packL (asRw (PV.agg [PV.sl 1 [PV.str k]])))) == ByteArray.toList v) (some ((.tup [.agg [.pv .nils],.cv (.pv (.int .i64 (Int.ofNat 14)))],[]))) (some ((.tup [.agg [.lst 1 9 1 [PV.str k] true],.cv (.pv (.int .i64 (Int.ofNat 0)))],[])))) none)) none) := by kernel_rfl
def zzar0 (t : List NodeT) (b : TblT) (u : List NodeT) (i : Int) := (List.headD (List.tail (List.drop (Int.toNat i * 3) (encN t))) PV.nilp)
theorem jl3 (t : List NodeT) (b : TblT) (u : List NodeT) (i : Int) : r_lns brC t b u i = brC (decide (i < (↑t.length : Int))) (brC (decide (0 ≤ i) && decide (i < (↑t.length : Int))) (brC (Nat.ble 3 (List.length (List.drop (Int.toNat i * 3) (encN t))) && (PV.isStr (List.headD (List.drop (Int.toNat i * 3) (encN t)) PV.nilp) && (PV.isSl (zzar0 t b u i) && (PV.isStr (List.headD (List.tail (List.tail (List.drop (Int.toNat i * 3) (encN t)))) PV.nilp) && true && true) && true) && true) && true) (brC (ByteArray.toList (PV.asStr (List.headD (List.drop (Int.toNat i * 3) (encN t)) PV.nilp)) == ByteArray.toList b.glob) (brC ((↑(PV.slN (zzar0 t b u i)) : Int) == 2) (brC (decide (0 ≤ 0) && decide (0 < (↑(PV.slN (zzar0 t b u i)) : Int))) (brC (Nat.blt 0 (List.length (List.drop 0 (PV.slL (zzar0 t b u i)))) && PV.isStr (List.headD (List.drop 0 (PV.slL (zzar0 t b u i))) PV.nilp) && true) (brC (ByteArray.toList (PV.asStr (List.headD (List.drop 0 (PV.slL (zzar0 t b u i))) PV.nilp)) == [Subtype.val ⟨ByteArray.get! { data := #[114] } 0,And.left (Iff.mp List.forall_mem_cons (List.attach._proof_1 [ByteArray.get! { data := #[114] } 0]))⟩]) (brC (Nat.beq (List.length [PV.str (PV.asStr (List.headD (List.drop (Int.toNat i * 3) (encN t)) PV.nilp)),PV.sl (PV.slN (zzar0 t b u i)) (PV.slL (zzar0 t b u i)),PV.str (PV.asStr (List.headD (List.tail (List.tail (List.drop (Int.toNat i * 3) (encN t)))) PV.nilp))]) (1 * 3) && (decide (List.length u + 1 ≤ 140737488351232) && decide ((List.length u + 1) * 56 ≤ 140737488355328))) (some (.inl [(.ptr 8192 0,some (.box [.pv (.sl t.length (encN t))])),(.ptr 12288 0,some (.box [.pv (.str b.name),.pv (.str b.glob),.pv (.sl b.cols.length (List.map PV.str b.cols)),.pv (.sl b.idxs.length (List.map PV.str b.idxs))])),(.own 20480,some (.lst 3 70 (List.length u + 1) (encN u ++ [PV.str (PV.asStr (List.headD (List.drop (Int.toNat i * 3) (encN t)) PV.nilp)),PV.sl (PV.slN (zzar0 t b u i)) (PV.slL (zzar0 t b u i)),PV.str (PV.asStr (List.headD (List.tail (List.tail (List.drop (Int.toNat i * 3) (encN t)))) PV.nilp))]) false)),(.pv (.int .i64 (IntKind.wrap .i64 (i + 1))),none)])) none) (some (.inl [(.ptr 8192 0,some (.box [.pv (.sl t.length (encN t))])),(.ptr 12288 0,some (.box [.pv (.str b.name),.pv (.str b.glob),.pv (.sl b.cols.length (List.map PV.str b.cols)),.pv (.sl b.idxs.length (List.map PV.str b.idxs))])),(.own 20480,some (.lst 3 70 u.length (encN u) false)),(.pv (.int .i64 (IntKind.wrap .i64 (i + 1))),none)]))) none) none) (some (.inl [(.ptr 8192 0,some (.box [.pv (.sl t.length (encN t))])),(.ptr 12288 0,some (.box [.pv (.str b.name),.pv (.str b.glob),.pv (.sl b.cols.length (List.map PV.str b.cols)),.pv (.sl b.idxs.length (List.map PV.str b.idxs))])),(.own 20480,some (.lst 3 70 u.length (encN u) false)),(.pv (.int .i64 (IntKind.wrap .i64 (i + 1))),none)]))) (some (.inl [(.ptr 8192 0,some (.box [.pv (.sl t.length (encN t))])),(.ptr 12288 0,some (.box [.pv (.str b.name),.pv (.str b.glob),.pv (.sl b.cols.length (List.map PV.str b.cols)),.pv (.sl b.idxs.length (List.map PV.str b.idxs))])),(.own 20480,some (.lst 3 70 u.length (encN u) false)),(.pv (.int .i64 (IntKind.wrap .i64 (i + 1))),none)]))) none) none) (some (.inr (.exit 0,[(.own 20480,some (.lst 3 70 u.length (encN u) false))]))) := by kernel_rfl
def zzas0 (t : List NodeT) (b : TblT) := (PV.agg [PV.str (TblT.name b),PV.str (TblT.glob b),pL (TblT.cols b),pL (TblT.idxs b)])
def zzas1 (t : List NodeT) (b : TblT) := (↑(List.length (keepR (asNs (PV.sl (List.length t) (encN t))) (asTb (zzas0 t b)))) : Int)
theorem jrg (t : List NodeT) (b : TblT) : jw2 brC t b = brC (isNs (PV.sl t.length (encN t)) && isTb (zzas0 t b) && Nat.beq 110 110) (brC ((if goIdR (asNs (PV.sl t.length (encN t))) (asTb (zzas0 t b)) < List.length (asNs (PV.sl t.length (encN t))) then (↑(goIdR (asNs (PV.sl t.length (encN t))) (asTb (zzas0 t b))) : Int) else -1) == -1) (some ((.cv (.lst 3 70 t.length (encN t) true),[]))) (brC (isNs (PV.sl t.length (encN t)) && isTb (zzas0 t b) && Nat.beq 110 110 && Nat.beq 70 70 && Nat.beq 0 0 && (if goIdR (asNs (PV.sl t.length (encN t))) (asTb (zzas0 t b)) < List.length (asNs (PV.sl t.length (encN t))) then (↑(goIdR (asNs (PV.sl t.length (encN t))) (asTb (zzas0 t b))) : Int) else -1) == (↑(goIdR (asNs (PV.sl t.length (encN t))) (asTb (zzas0 t b))) : Int) && IntKind.wrap .i64 ((if goIdR (asNs (PV.sl t.length (encN t))) (asTb (zzas0 t b)) < List.length (asNs (PV.sl t.length (encN t))) then (↑(goIdR (asNs (PV.sl t.length (encN t))) (asTb (zzas0 t b))) : Int) else -1) + 1) == (↑(goIdR (asNs (PV.sl t.length (encN t))) (asTb (zzas0 t b))) : Int) + 1 && decide (goIdR (asNs (PV.sl t.length (encN t))) (asTb (zzas0 t b)) < List.length (asNs (PV.sl t.length (encN t))))) (brC (decide (0 ≤ (zzas1 t b)) && decide ((zzas1 t b) ≤ (↑t.length : Int)) && decide ((↑t.length : Int) ≤ (↑t.length : Int)) && true) (brC (decide (0 ≤ 0) && decide (0 ≤ (zzas1 t b)) && decide ((zzas1 t b) ≤ (↑t.length : Int)) && true && true) (some ((.cv (.pv (.sl (Int.toNat (zzas1 t b) - 0) (List.take ((Int.toNat (zzas1 t b) - 0) * 3) (List.drop (0 * 3) (List.take (Int.toNat (zzas1 t b) * 3) (encN (keepR (asNs (PV.sl t.length (encN t))) (asTb (zzas0 t b)) ++ List.drop (List.length (keepR (asNs (PV.sl t.length (encN t))) (asTb (zzas0 t b)))) (asNs (PV.sl t.length (encN t))))) ++ List.flatten (List.replicate (List.length t - Int.toNat (zzas1 t b)) [PV.str { data := #[] },PV.nils,PV.str { data := #[] }])))))),[]))) none) none) none)) none := by kernel_rfl
theorem jqk (x : NodeT) (t : List NodeT) : jxq brC x t = brC (Nat.beq (List.length (PV.str x.name :: PV.sl x.subs.length (List.map PV.str x.subs) :: PV.str x.value :: encN t)) ((List.length t + 1) * 3) && (decide (0 + (List.length t + 1) ≤ 140737488351232) && decide ((0 + (List.length t + 1)) * 56 ≤ 140737488355328))) (some ((.cv (.lst 3 70 (0 + (List.length t + 1)) (PV.str x.name :: PV.sl x.subs.length (List.map PV.str x.subs) :: PV.str x.value :: encN t) true),[]))) none := by kernel_rfl
theorem jst (b : TblT) (x : NodeT) : q_isR brC b x = brC (ByteArray.toList x.name == ByteArray.toList b.glob) (brC ((↑x.subs.length : Int) == 2) (brC (decide (0 ≤ 0) && decide (0 < (↑x.subs.length : Int))) (brC (Nat.blt 0 (List.length (List.drop 0 (List.map PV.str x.subs))) && PV.isStr (List.headD (List.drop 0 (List.map PV.str x.subs)) PV.nilp) && true) (some ((.cv (.pv (.bool (ByteArray.toList (PV.asStr (List.headD (List.drop 0 (List.map PV.str x.subs)) PV.nilp)) == [Subtype.val ⟨ByteArray.get! { data := #[114] } 0,And.left (Iff.mp List.forall_mem_cons (List.attach._proof_1 [ByteArray.get! { data := #[114] } 0]))⟩]))),[]))) none) none) (some ((.cv (.pv (.bool false)),[])))) (some ((.cv (.pv (.bool false)),[]))) := by kernel_rfl
theorem jrF (t : List NodeT) (b : TblT) : q_lns brC t b = brC (isTb (PV.agg [PV.str b.name,PV.str b.glob,pL b.cols,pL b.idxs]) && isNs (pNs t) && Nat.beq 8192 8192 && Nat.beq 12288 12288 && Nat.beq 20480 20480 && Nat.beq 70 70 && Nat.beq 0 0 && nilB [] && 0 == 0) (some ((.cv (.lst 3 70 (List.length (keepR (asNs (pNs t)) (asTb (PV.agg [PV.str b.name,PV.str b.glob,pL b.cols,pL b.idxs])))) (encN (keepR (asNs (pNs t)) (asTb (PV.agg [PV.str b.name,PV.str b.glob,pL b.cols,pL b.idxs])))) false),[]))) none := by kernel_rfl
end
section
open Go.RowKit Go.Lib
theorem jlL (a : Option Addr) (n c : Nat) (w : World) : (binOp .eql 31 (.slice a n c) (.slice none 0 0)).run Tryz.prog w = .ok (.bool a.isNone) w := by
 simp only [binOp]
 simp [run_equal_slice_nil (P := Tryz.prog) w 31 70 a n c Tryz.underlying31]
set_option maxHeartbeats 2000000 in
set_option maxRecDepth 100000 in
theorem jrA (c : Nat) (w : World) : Calls Tryz.prog 109 #[.slice none 0 c] w fun e w' => ∃ a' c',e = .returned (.slice a' 0 c') ∧ Below w.heap.size w w' := by
 go_enter Tryz.func109, Tryz.ntmps109
 go_wp2
 rw [jlL]
 go_wp2
 go_ret
 exact ⟨_,_,rfl,Below.refl _ _⟩
set_option maxHeartbeats 2000000 in
set_option maxRecDepth 100000 in
theorem jo9 (a : Addr) (c : Nat) (w : World) : Calls Tryz.prog 109 #[.slice (some a) 0 c] w fun e w' => ∃ a' c',e = .returned (.slice a' 0 c') ∧ Below w.heap.size w w' := by
 go_enter Tryz.func109, Tryz.ntmps109
 go_wp2
 rw [jlL]
 go_wp2
 go_ret
 exact ⟨_,_,rfl,Below.alloc (B := w.heap.size) (a := w) (w := w) (Below.refl _ _) (Nat.le_refl _) _⟩
end
section
open Go.RowKit
theorem jkn {a b c : ByteArray} (h : strLt a b = true) (k : strLt b c = true) : strLt a c = true := by
 unfold strLt at h k ⊢
 rw [jcp] at h k ⊢
 exact jew h k
theorem jk4 {a b c : ByteArray} {x y z : List ByteArray} (h : locLt a x b y = true) (k : locLt b y c z = true) : locLt a x c z = true := by
 unfold locLt at h k ⊢
 rw [Bool.or_eq_true,nqE] at h k ⊢
 rcases h with h | ⟨h,h'⟩
 ·rcases k with k | ⟨k,k'⟩
  ·exact .inl (jkn h k)
  ·obtain rfl := jbM.1 k
   exact .inl h
 ·obtain rfl := jbM.1 h
  rcases k with k | ⟨k,k'⟩
  ·exact .inl k
  ·exact .inr ⟨k,jeF h' k'⟩
theorem jjx : ∀ (t : List NodeT) (p : Option NodeT),jb4 p t = true → (∀ x ∈ t,nodeB x = true) ∧ t.Pairwise (fun x y => ji0 x y = true) ∧ ∀ y,p = some y → ∀ x ∈ t,ji0 y x = true
 | [],_,_ => ⟨fun x h => (List.not_mem_nil h).elim,.nil,fun y _ x h => (List.not_mem_nil h).elim⟩
 | x :: t,p,h => by
  unfold jb4 at h
  rw [nqE,nqE] at h
  obtain ⟨⟨h1,h2⟩,h3⟩ := h
  obtain ⟨i1,i2,i3⟩ := jjx t (some x) h3
  refine ⟨fun y hy => ?_,List.pairwise_cons.2 ⟨i3 x rfl,i2⟩,fun y hy z hz => ?_⟩
  ·rcases List.mem_cons.1 hy with rfl | hy
   ·exact h1
   ·exact i1 y hy
  ·subst hy
   rcases List.mem_cons.1 hz with rfl | hz
   ·exact h2
   ·exact jk4 h2 (i3 x rfl z hz)
theorem jsT {t : List NodeT} (h : treeB t = true) : t.length ≤ 120 ∧ (∀ x ∈ t,nodeB x = true) ∧ t.Pairwise (fun x y => ji0 x y = true) := by
 unfold treeB at h
 rw [nqE] at h
 obtain ⟨h1,h2,_⟩ := jjx t none h.2
 exact ⟨nqI h.1,h1,h2⟩
def ownB (s : ByteArray) (x : NodeT) : Bool := sEq x.name s && decide (0 < x.subs.length)
end
section
open Go.RowKit
theorem tbI {b : TblT} (h : shTb b) : isTb (PV.agg [PV.str b.name,PV.str b.glob,pL b.cols,pL b.idxs]) = true := jaA h
theorem tbA (b : TblT) : asTb (PV.agg [PV.str b.name,PV.str b.glob,pL b.cols,pL b.idxs]) = b := jai b
theorem jbj {s g : ByteArray} {q r : PV} (h : isTb (.agg [.str s,.str g,q,r]) = true) : ∃ b,s = b.name ∧ g = b.glob ∧ q = pL b.cols ∧ r = pL b.idxs ∧ shTb b := by
 obtain ⟨b,e,hb⟩ := jap h
 unfold pTb at e
 injection e with e
 injection e with e1 e
 injection e1 with e1
 injection e with e2 e
 injection e2 with e2
 injection e with e3 e
 injection e with e4 e
 exact ⟨b,e1,e2,e3,e4,hb⟩
theorem brTc {R : Type} (x y : Option R) : brC true x y = x := rfl
theorem brFc {R : Type} (x y : Option R) : brC false x y = y := rfl
theorem jws : jab Tryz.prog 111 E_isR := jac mix (tab := []) trivial (lp := []) (LO := LO0) ⟨Tryz.func111,by kernel_rfl,by kernel_rfl⟩ (by kernel_rfl) fun ivs res bxs h => by
 unfold E_isR at h
 split at h
 ·rename_i p q
  obtain ⟨hc,he⟩ := pick1 h
  cases he
  obtain ⟨k0,k1⟩ := andE hc
  obtain ⟨b,rfl,h_b⟩ := jap k0
  obtain ⟨x,rfl,h_x⟩ := jae k1
  have e_b : asTb (pTb b) = b := jai b
  have e_x : asN (pN x) = x := jbA x
  rw [e_b,e_x]
  refine ⟨jaq (by kernel_rfl),?_⟩
  have tree := jst b x
  unfold rwN
  cases h1 : (x.name.toList == b.glob.toList) with
  | false => rw [h1] at tree; exact tree.trans rfl
  | true =>
   rw [h1] at tree
   cases hs : x.subs with
   | nil => rw [hs] at tree; exact tree.trans rfl
   | cons a t =>
    rw [hs] at tree
    by_cases h2 : (a :: t).length = 2
    ·have h3 : ((((a :: t).length : Nat) : Int) == 2) = true := by rw [h2]; rfl
     have h4 : (0 : Int) < (((a :: t).length : Nat) : Int) := by rw [h2]; decide
     rw [h3,dT h4] at tree
     rw [dT h2]
     exact tree.trans rfl
    ·have h3 : ((((a :: t).length : Nat) : Int) == 2) = false := beq_eq_false_iff_ne.2 (by omega)
     rw [h3] at tree
     rw [dF h2]
     exact tree.trans rfl
 ·cases h
theorem jrd : jad Tryz.prog scb1 := ⟨jws,trivial⟩
theorem jwt : jab Tryz.prog 110 E_rn1 := jac mix jrd (lp := []) (LO := LO0) ⟨Tryz.func110,by kernel_rfl,by kernel_rfl⟩ (by kernel_rfl) fun ivs res bxs h => by
 unfold E_rn1 at h
 split at h
 ·rename_i p s g q r
  obtain ⟨hc,he⟩ := pick1 h
  cases he
  obtain ⟨k0,k1⟩ := andE hc
  obtain ⟨x,rfl,h_x⟩ := jae k0
  obtain ⟨b,rfl,rfl,rfl,rfl,h_b⟩ := jbj k1
  have e_x : asN (pN x) = x := jbA x
  rw [tbA,e_x]
  refine ⟨jaq (by kernel_rfl),?_⟩
  have tree := jsu x b
  revert tree; try delta zzap0; intro tree
  have i1 := jaA h_b
  have a1 := jai b
  have i2 := jfT h_x
  simp only [List.headD_cons,List.tail_cons,List.drop_succ_cons,List.drop_zero,PV.isStr,PV.asStr,PV.isSl,PV.slN,PV.slL,isTb,asTb,i1,a1,isN,i2,jbA,Bool.and_true,Bool.true_and] at tree
  exact tree.trans rfl
 ·cases h
theorem jqp : jad Tryz.prog scb2 := ⟨jwt,jrd⟩
theorem jqH (b : TblT) : goIdR [] b = 0 := rfl
theorem jip {x : NodeT} {t : List NodeT} {b : TblT} (h : noR b x = true) : goIdR (x :: t) b = 0 := by
 unfold goIdR
 rw [List.takeWhile_cons,h]
 rfl
theorem jga {x : NodeT} {t : List NodeT} {b : TblT} (h : noR b x = false) : goIdR (x :: t) b = goIdR t b + 1 := by
 unfold goIdR
 rw [List.takeWhile_cons,h]
 rfl
theorem jry (t : List NodeT) (h : shT t) (b : TblT) (hx : shTb b) : ∀ (m i : Nat),m + i = t.length → LoopsTo (rdB brC Tryz.prog scb2 jhh jfw Tryz.f112 2 []) [aP (pNs t),aP (rcl b),aI t.length,aI i]
  (if goIdR (t.drop i) b + i < t.length then (.ret,[aI ((goIdR (t.drop i) b + i : Nat) : Int)]) else (.exit 0,[aX])) := by
 have hl := h.1
 intro m
 induction m with
 | zero =>
  intro i hm
  obtain rfl : i = t.length := by omega
  rw [List.drop_length,jqH,if_neg (by omega)]
  refine .done _ _ ((jiI t b t.length).trans ?_)
  rw [dF (by omega)]
  rfl
 | succ m ih =>
  intro i hm
  have hi : i < t.length := by omega
  have hs := jeP h hi
  have ih' := ih (i + 1) (by omega)
  have tree := jiI t b i
  have e2 := jaA hx
  have e3 := jai b
  simp (disch := omega) only [dT,nqF,jaW t i hi,nqH,List.headD_cons,List.tail_cons,PV.isStr,PV.asStr,PV.isSl,PV.slN,PV.slL,ble3,wrap1,Bool.and_true,jfT hs,jbA,e2,e3] at tree
  rw [nqK hi]
  cases hin : noR b t[i] with
  | true =>
   rw [hin] at tree
   rw [jip hin,Nat.zero_add,if_pos hi]
   exact .done _ _ tree
  | false =>
   rw [hin] at tree
   rw [jga hin]
   have e : goIdR (t.drop (i + 1)) b + (i + 1) = goIdR (t.drop (i + 1)) b + 1 + i := by omega
   rw [e] at ih'
   exact .step _ _ _ tree ih'
theorem jvm : jab Tryz.prog 112 E_IdxR := jac mix jqp (lp := jhh) (LO := jfw) ⟨Tryz.func112,by kernel_rfl,by kernel_rfl⟩ (by kernel_rfl) fun ivs res bxs h => by
 unfold E_IdxR at h
 split at h
 ·rename_i p f s g q r
  obtain ⟨hc,he⟩ := pick1 h
  cases he
  simp only [nqE] at hc
  obtain ⟨⟨h1,h2⟩,h3⟩ := hc
  obtain ⟨t,rfl,ht⟩ := jae h1
  obtain ⟨b,rfl,rfl,rfl,rfl,hx⟩ := jbj h2
  obtain rfl := nqB h3
  refine ⟨jas 2 (by kernel_rfl) (by kernel_rfl) (by kernel_rfl) ?_,(jo1 t b).trans ?_⟩
  ·intro ls e ls' hl
   unfold jfw at hl
   split at hl
   ·rename_i p f s g q r n i
    cases hg : (isNs p && isTb (.agg [.str s,.str g,q,r]) && Nat.beq f 110 && (n == ((asNs p).length : Int)) && (i == 0)) with
    | false => rw [hg] at hl; simp only [pickA,Bool.false_and,cond_false] at hl; cases hl
    | true =>
     rw [hg,Bool.true_and] at hl
     simp only [nqE,beq_iff_eq] at hg
     obtain ⟨⟨⟨⟨g1,g2⟩,g3⟩,g4⟩,g5⟩ := hg
     obtain ⟨u,rfl,hu⟩ := jae g1
     obtain ⟨b,rfl,rfl,rfl,rfl,hy⟩ := jbj g2
     simp only [jau,tbA] at hl g4
     rw [nqB g3,g4,g5]
     have := jry u hu b hy u.length 0 (by omega)
     rw [List.drop_zero,Nat.add_zero] at this
     by_cases hlt : goIdR u b < u.length
     ·rw [dT hlt] at hl
      rw [if_pos hlt] at this
      cases hl
      exact this
     ·rw [dF hlt] at hl
      rw [if_neg hlt] at this
      cases hl
      exact this
   ·cases hl
  ·simp only [jbt ht,tbI hx,tbA,jau,beq_self_eq_true,Bool.and_true,Bool.true_and,Nat.beq_refl]
   by_cases hlt : goIdR t b < t.length
   ·rw [dT hlt,if_pos hlt]
    rfl
   ·rw [dF hlt,if_neg hlt]
    rfl
 ·cases h
theorem jov : jad Tryz.prog scb3 := ⟨jvm,jqp⟩
theorem jd8 (t : List NodeT) (b : TblT) : (keepR t b).length ≤ t.length := List.length_filter_le _ _
theorem jdM (t u : List NodeT) (b : TblT) : keepR (t ++ u) b = keepR t b ++ keepR u b := List.filter_append t u
theorem jcu (x : NodeT) (b : TblT) : keepR [x] b = if (!noR b x) = true then [x] else [] := by
 unfold keepR
 rw [List.filter_cons]
 rfl
theorem jmG (b : TblT) : ∀ t : List NodeT,goIdR t b < t.length → keepR (t.take (goIdR t b + 1)) b = t.take (goIdR t b)
 | [],h => by simp at h
 | x :: t,h => by
  cases hin : noR b x with
  | true =>
   rw [jip hin,Nat.zero_add,List.take_succ_cons,List.take_zero,List.take_zero,jcu,hin]
   rfl
  | false =>
   rw [jga hin] at h ⊢
   have ih := jmG b t (by simpa using h)
   rw [List.take_succ_cons,List.take_succ_cons,← ih]
   show keepR ([x] ++ _) b = _
   rw [jdM,jcu,hin]
   rfl
theorem jmA (b : TblT) : ∀ t : List NodeT,¬ goIdR t b < t.length → keepR t b = t
 | [],h => rfl
 | x :: t,h => by
  cases hin : noR b x with
  | true => rw [jip hin] at h; simp at h
  | false =>
   rw [jga hin] at h
   have ih := jmA b t (by simpa using h)
   show keepR ([x] ++ t) b = _
   rw [jdM,jcu,hin,ih]
   rfl
def delR (t : List NodeT) (b : TblT) (j : Nat) : List NodeT := keepR (t.take j) b ++ t.drop (keepR (t.take j) b).length
theorem jcm (t : List NodeT) (b : TblT) (j : Nat) : (keepR (t.take j) b).length ≤ j ∧ (keepR (t.take j) b).length ≤ t.length := by
 have := jd8 (t.take j) b
 rw [List.length_take] at this
 omega
theorem jdH (t : List NodeT) (b : TblT) (j : Nat) : (delR t b j).length = t.length := by
 unfold delR
 have := jcm t b j
 rw [nqG,List.length_drop]
 omega
theorem jqa (t : List NodeT) (b : TblT) (j : Nat) : (delR t b j).drop j = t.drop j := by
 unfold delR
 have := jcm t b j
 rw [List.drop_append,List.drop_eq_nil_of_le this.1,List.nil_append,List.drop_drop]
 congr 1
 omega
theorem jpb (t : List NodeT) (h : shT t) (b : TblT) (hx : shTb b) : ∀ (m j : Nat),m + j = t.length → LoopsTo (rdB brC Tryz.prog scb3 jem jdj Tryz.f108 5 [])
  [aM 0 3 70 (delR t b j).length (encN (delR t b j)),aP (rcl b),aI (keepR (t.take j) b).length,aI j] (.exit 0,[aM 0 3 70 t.length (encN (keepR t b ++ t.drop (keepR t b).length)),aI (keepR t b).length]) := by
 have hl := h.1
 intro m
 induction m with
 | zero =>
  intro j hm
  obtain rfl : j = t.length := by omega
  refine .done _ _ ((ji6 (delR t b t.length) b (keepR (t.take t.length) b).length t.length).trans ?_)
  rw [dF (by rw [jdH]; omega),jdH]
  unfold delR
  rw [List.take_length]
  rfl
 | succ m ih =>
  intro j hm
  have hj : j < t.length := by omega
  have hs := jeP h hj
  have hkl := jcm t b j
  have hul := jdH t b j
  have hud := jqa t b j
  have ek : keepR (t.take (j + 1)) b = keepR (t.take j) b ++ (if (!noR b t[j]) = true then [t[j]] else []) := by
   rw [List.take_succ_eq_append_getElem hj,jdM,jcu]
  have hdrop : (encN (delR t b j)).drop (j * 3) = .str t[j].name :: .sl t[j].subs.length (t[j].subs.map PV.str) :: .str t[j].value :: encN (t.drop (j + 1)) := by
   rw [jjP,hud,nqK hj]
   rfl
  have hel := jck (delR t b j)
  have b1 : Nat.ble (j * 3) (encN (delR t b j)).length = true := Nat.ble_eq_true_of_le (by omega)
  have b2 : Nat.ble ((keepR (t.take j) b).length * 3 + 3) (encN (delR t b j)).length = true := Nat.ble_eq_true_of_le (by omega)
  have b3 : ∀ (x y z : PV),Nat.beq (List.length [x,y,z]) 3 = true := fun _ _ _ => rfl
  have e2 := jaA hx
  have e3 := jai b
  have tree := ji6 (delR t b j) b (keepR (t.take j) b).length j
  simp (disch := omega) only [dT,nqF,hdrop,b1,b2,b3,nqH,List.headD_cons,List.tail_cons,PV.isStr,PV.asStr,PV.isSl,PV.slN,PV.slL,ble3,wrap1,Bool.and_true,Bool.true_and,jfT hs,jbA,e2,e3] at tree
  cases hin : noR b t[j] with
  | true =>
   rw [hin] at tree ek
   simp only [Bool.not_true,if_neg Bool.false_ne_true,List.append_nil] at ek
   have ih' := ih (j + 1) (by omega)
   have eu : delR t b (j + 1) = delR t b j := by unfold delR; rw [ek]
   rw [eu,ek] at ih'
   exact .step _ _ _ tree ih'
  | false =>
   rw [hin] at tree ek
   simp only [Bool.not_false,if_pos] at ek
   have ih' := ih (j + 1) (by omega)
   have eu : encN (delR t b (j + 1)) = List.take ((keepR (t.take j) b).length * 3) (encN (delR t b j)) ++ [PV.str t[j].name,PV.sl t[j].subs.length (t[j].subs.map PV.str),PV.str t[j].value] ++ List.drop ((keepR (t.take j) b).length * 3 + 3) (encN (delR t b j)) := by
    rw [jiP,show (keepR (t.take j) b).length * 3 + 3 = ((keepR (t.take j) b).length + 1) * 3 by omega,jjP]
    unfold delR
    rw [ek]
    generalize keepR (t.take j) b = K
    have d1 : (K ++ t.drop K.length).drop (K.length + 1) = t.drop (K.length + 1) := by
     rw [List.drop_append,List.drop_eq_nil_of_le (Nat.le_succ _),List.nil_append,List.drop_drop]
     congr 1
     omega
    rw [d1,List.take_left,jdS,jdS,nqG,List.length_singleton]
    rfl
   have hl2 : (delR t b (j + 1)).length = (delR t b j).length := by rw [jdH,jdH]
   have hk2 : ((keepR (t.take (j + 1)) b).length : Int) = (((keepR (t.take j) b).length + 1 : Nat) : Int) := by rw [ek,nqG,List.length_singleton]
   rw [eu,hl2,hk2] at ih'
   exact .step _ _ _ tree ih'
theorem juR : jab Tryz.prog 108 E_DelR := jac mix jov (lp := jem) (LO := jdj) ⟨Tryz.func108,by kernel_rfl,by kernel_rfl⟩ (by kernel_rfl) fun ivs res bxs h => by
 have loops : ∀ ivs : List IV,(∀ b ∈ jar (jaM Tryz.f108),jaO Tryz.prog (tabL scb3) (OL jem) Tryz.f108.ntmps (pbOf []) jdj b) := fun _ => by
  refine jas 5 (by kernel_rfl) (by kernel_rfl) (by kernel_rfl) ?_
  intro ls e ls' hl
  unfold jdj at hl
  split at hl
  ·rename_i x e n l f s g q r i j
   obtain ⟨hc,he⟩ := pick1 hl
   cases he
   simp only [nqE,beq_iff_eq,decide_eq_true_eq] at hc
   obtain ⟨⟨⟨⟨⟨⟨⟨g1,g2⟩,g3⟩,g4⟩,g5⟩,g6⟩,g7⟩,g8⟩ := hc
   obtain ⟨t,ht',ht⟩ := jae g1
   obtain ⟨b,rfl,rfl,rfl,rfl,hy⟩ := jbj g2
   rw [ht'] at g6 g7 g8 ⊢
   injection ht' with hn hll
   subst hn
   subst hll
   simp only [jau,tbA] at g6 g7 g8 ⊢
   rw [nqB g3,nqB g4,nqB g5,g6,g7]
   have hk := jmG b t g8
   have hkl : (keepR (t.take (goIdR t b + 1)) b).length = goIdR t b := by rw [hk,List.length_take]; omega
   have := jpb t ht b hy (t.length - (goIdR t b + 1)) (goIdR t b + 1) (by omega)
   have eu : delR t b (goIdR t b + 1) = t := by
    unfold delR
    rw [hkl,hk,List.take_append_drop]
   rw [eu,hkl] at this
   exact this
  ·cases hl
 unfold E_DelR at h
 split at h
 ·rename_i e n l f s g q r
  cases hg : (isNs (.sl n l) && isTb (.agg [.str s,.str g,q,r]) && Nat.beq f 110 && Nat.beq e 70) with
  | false => rw [hg] at h; simp only [pickA,Bool.false_and,cond_false] at h; cases h
  | true =>
   rw [hg,Bool.true_and] at h
   simp only [nqE] at hg
   obtain ⟨⟨⟨g1,g2⟩,g3⟩,g4⟩ := hg
   obtain ⟨t,ht',ht⟩ := jae g1
   obtain ⟨b,rfl,rfl,rfl,rfl,hy⟩ := jbj g2
   rw [ht'] at h
   injection ht' with hn hl
   subst hn
   subst hl
   simp only [jau,tbA] at h
   rw [nqB g3,nqB g4]
   refine ⟨loops [],(jrg t b).trans ?_⟩
   try delta zzas1
   try delta zzas0
   have hlen := ht.1
   have hkl := jd8 t b
   have e1 := jbt ht
   have e2 := tbI hy
   have e3 := tbA b
   simp only [isNs,e1,e2,e3,jau]
   by_cases hlt : goIdR t b < t.length
   ·rw [dT hlt] at h
    cases h
    rw [if_pos hlt]
    have n1 : ((goIdR t b : Int) == -1) = false := by simp
    have n2 : (IntKind.wrap .i64 ((goIdR t b : Int) + 1) == (goIdR t b : Int) + 1) = true := by rw [wrap1 (by omega)]; simp
    have er : PV.sl (Int.toNat ((keepR t b).length : Int) - 0) (List.take ((Int.toNat ((keepR t b).length : Int) - 0) * 3) (List.drop (0 * 3) (List.take (Int.toNat ((keepR t b).length : Int) * 3) (encN (keepR t b ++ List.drop (keepR t b).length t)) ++ List.flatten (List.replicate (t.length - Int.toNat ((keepR t b).length : Int)) [PV.str { data := #[] },PV.nils,PV.str { data := #[] }])))) = pNs (keepR t b) := by
     rw [nqF,Nat.sub_zero,Nat.zero_mul,List.drop_zero,jiP,List.take_left,List.take_append_of_le_length (by rw [jck]; exact Nat.le_refl _),List.take_of_length_le (by rw [jck]; exact Nat.le_refl _)]
    rw [n1,n2,er]
    simp (disch := omega) only [dT,hlt,beq_self_eq_true,Nat.beq_refl,Bool.and_true,Bool.true_and]
    rfl
   ·rw [dF hlt] at h
    cases h
    rw [if_neg hlt]
    rfl
 ·rename_i f s g q r
  obtain ⟨hc,he⟩ := pick1 h
  cases he
  rw [nqE] at hc
  obtain ⟨b,rfl,rfl,rfl,rfl,hy⟩ := jbj hc.1
  rw [nqB hc.2]
  refine ⟨loops [],(jn9 b).trans ?_⟩
  have e1 : isNs (.sl 0 []) = true := jbt (t := []) ⟨Nat.zero_le _,fun _ h => by cases h⟩
  have e2 : asNs (.sl 0 []) = [] := jau []
  rw [e1,e2,tbI hy]
  rfl
 ·cases h
theorem jmD : jab Tryz.prog 109 E_CloN1 := jac mix (tab := []) trivial (lp := [(1000000,[5,7],[])]) (LO := LO0) ⟨Tryz.func109,by kernel_rfl,by kernel_rfl⟩ (by kernel_rfl) fun ivs res bxs h => by
 unfold E_CloN1 at h
 split at h
 ·rename_i p
  obtain ⟨hc,he⟩ := pick1 h
  cases he
  obtain ⟨k0,k1⟩ := andE hc
  obtain ⟨t,rfl,ht⟩ := jae k0
  have e1 : asNs (pNs t) = t := jau t
  have h2 := nqI k1
  rw [e1] at h2 ⊢
  have hl := ht.1
  cases t with
  | nil => simp at h2
  | cons x t =>
   have tree := jqk x t
   rw [nqH] at hl
   have b1 : Nat.beq (PV.str x.name :: PV.sl x.subs.length (x.subs.map PV.str) :: PV.str x.value :: encN t).length ((t.length + 1) * 3) = true := by
    rw [show (PV.str x.name :: PV.sl x.subs.length (x.subs.map PV.str) :: PV.str x.value :: encN t) = encN (x :: t) from rfl,jck,nqH,Nat.beq_refl]
   rw [b1,dT (show 0 + (t.length + 1) ≤ 140737488351232 by omega),dT (show (0 + (t.length + 1)) * 56 ≤ 140737488355328 by omega),Nat.zero_add] at tree
   exact ⟨jaq (by kernel_rfl),tree⟩
 ·cases h
theorem jsr : jab Tryz.prog 109 E_CloN0 := ⟨jmD.1,fun ivs res bxs h => by
 unfold E_CloN0 at h
 split at h
 ·rename_i n l
  obtain ⟨hc,he⟩ := pick1 h
  cases he
  obtain ⟨k0,k1⟩ := andE hc
  obtain rfl := nqB k0
  obtain rfl := ja8 k1
  refine jeT (ps := [.sl 0 []]) (p := .sl 0 []) fun w com vals hv hfr hgl => ?_
  obtain ⟨v,vs,rfl,hv1,hn⟩ := hv.of_cons
  rw [hn.of_nil]
  have fin : ∀ (a : Option Addr) (c : Nat),Calls Tryz.prog 109 #[.slice a 0 c] w fun e w' => ∃ a' c',e = .returned (.slice a' 0 c') ∧ Below w.heap.size w w' := fun a c => by
   cases a with
   | none => exact jrA c w
   | some a => exact jo9 a c w
  cases hv1 with
  | sl0 a c =>
   refine (fin a c).mono ?_
   rintro e w' ⟨a',c',rfl,hb⟩
   exact ⟨.slice a' 0 c',com,rfl,.sl0 a' c',⟨fun _ => Nat.le_refl _,fun b i hi => jaE.cell_of_block (hb.block b (by
    rcases Nat.lt_or_ge b w.heap.size with h | h
    ·exact h
    ·rw [hfr b h] at hi; exact absurd hi (Nat.not_lt_zero _)))⟩,fun b hs => hfr b (Nat.le_trans hb.size hs),fun _ _ => rfl,hb⟩
  | sl b off n cap cs l hn hl h1 hc hm he =>
   refine (fin _ _).mono ?_
   rintro e w' ⟨a',c',rfl,hb⟩
   exact ⟨.slice a' 0 c',com,rfl,.sl0 a' c',⟨fun _ => Nat.le_refl _,fun b i hi => jaE.cell_of_block (hb.block b (by
    rcases Nat.lt_or_ge b w.heap.size with h | h
    ·exact h
    ·rw [hfr b h] at hi; exact absurd hi (Nat.not_lt_zero _)))⟩,fun b hs => hfr b (Nat.le_trans hb.size hs),fun _ _ => rfl,hb⟩
 ·cases h⟩
theorem jva : jab Tryz.prog 109 E_CloN := jd0 jsr jmD
theorem jt2 : jad Tryz.prog scb4 := ⟨juR,jva,jov⟩
theorem jix {t : List NodeT} {b : TblT} {x : NodeT} (h : x ∈ keepR t b) : x ∈ t ∧ rwN b x = true := by
 unfold keepR at h
 rw [List.mem_filter] at h
 refine ⟨h.1,?_⟩
 have := h.2
 unfold noR at this
 cases hr : rwN b x <;> rw [hr] at this <;> first | rfl | cases this
theorem jhr {t : List NodeT} (h : shT t) (b : TblT) : shT (keepR t b) := ⟨Nat.le_trans (jd8 t b) h.1,fun x hx => h.2 x (jix hx).1⟩
theorem jrQ : jab Tryz.prog 78 E_rowNs := jbp mix jt2 (lp := [(1000001,[144],[])]) (LO := LO0) ⟨Tryz.func78,by kernel_rfl,by kernel_rfl⟩ (by kernel_rfl) fun ivs res bxs h => by
 unfold E_rowNs at h
 split at h
 ·rename_i p q
  obtain ⟨hc,he⟩ := pick1 h
  cases he
  obtain ⟨k0,k1⟩ := andE hc
  obtain ⟨t,rfl,h_t⟩ := jae k0
  obtain ⟨b,rfl,h_b⟩ := jap k1
  have e_t : asT (pT t) = t := jaR t
  have e_b : asTb (pTb b) = b := jai b
  rw [e_t,e_b]
  have tree := jm6 t b
  revert tree; try delta zzao0; intro tree
  have i1 : isNs (PV.sl t.length (encN t)) = true := jbr (enc := pNs) h_t
  have a1 : asNs (PV.sl t.length (encN t)) = t := jau t
  rw [tbI h_b,i1,a1,i1,a1,tbA] at tree
  cases t with
  | nil =>
   refine ⟨jaq (by kernel_rfl),_,tree.trans (by rw [show encN [] = [] from rfl,jbO]; rfl),rfl,rfl⟩
  | cons x t =>
   have hz : Nat.beq (x :: t).length 0 = false := rfl
   rw [hz,Bool.false_and,brFc,dT (show 1 ≤ (x :: t).length by rw [nqH]; omega)] at tree
   by_cases hg : goIdR (x :: t) b < (x :: t).length
   ·rw [dT hg] at tree
    exact ⟨jaq (by kernel_rfl),_,tree,rfl,rfl⟩
   ·rw [dF hg] at tree
    refine ⟨jaq (by kernel_rfl),_,tree,rfl,?_⟩
    rw [jmA b _ hg]
    rfl
 ·cases h
theorem juc : jab Tryz.prog 98 E_unpM := jac mix jt5 (lp := [(1000000,[10,20],[23,27,33]),(2000016,[8,0,17],[])]) (LO := LO0) ⟨Tryz.func98,by kernel_rfl,by kernel_rfl⟩ (by kernel_rfl) fun ivs res bxs h => by
 unfold E_unpM at h
 split at h
 ·rename_i p k v
  have key : ∀ b,shTb b → k.size ≤ 50000 → v.size ≤ 50000 → tblB b = true → jtI brC b k v = if unpB b k v = true then some (.tup [.agg [.lst 1 9 (jax b k v).length ((jax b k v).map .str) true],cI 0],[]) else some (.tup [.agg [.pv .nils],cI 14],[]) := fun b hb hk hv hB => by
   have tree := jqz b k v
   revert tree; try delta zzaq1; intro tree
   revert tree; try delta zzaq0; intro tree
   obtain ⟨c1,c5⟩ := jdZ hB
   have hsh := joI hv
   have hpk := jnw b k v
   have fin : ∀ cs : List ByteArray,jax b k v = cs → shL cs → ∀ X : Option (IV × List (List CV)),X = brC (isTb (PV.agg [PV.str b.name,PV.str b.glob,PV.sl b.cols.length (b.cols.map PV.str),PV.sl b.idxs.length (b.idxs.map PV.str)]) && isRw (PV.agg [PV.sl cs.length (cs.map .str)]) && decide (1 ≤ (asTb (PV.agg [PV.str b.name,PV.str b.glob,PV.sl b.cols.length (b.cols.map PV.str),PV.sl b.idxs.length (b.idxs.map PV.str)])).cols.length))
     (brC (!rowB (asTb (PV.agg [PV.str b.name,PV.str b.glob,PV.sl b.cols.length (b.cols.map PV.str),PV.sl b.idxs.length (b.idxs.map PV.str)])) (asRw (PV.agg [PV.sl cs.length (cs.map .str)])))
      (some (.tup [.agg [.pv .nils],cI 14],[]))
      (brC (isRw (PV.agg [PV.sl cs.length (cs.map .str)]) && decide (1 ≤ (asRw (PV.agg [PV.sl cs.length (cs.map .str)])).length) && decide ((packL (asRw (PV.agg [PV.sl cs.length (cs.map .str)]))).length ≤ 1048576))
       (brC (!(ByteArray.toList (bs (packL (asRw (PV.agg [PV.sl cs.length (cs.map .str)])))) == ByteArray.toList v))
        (some (.tup [.agg [.pv .nils],cI 14],[]))
        (some (.tup [.agg [.lst 1 9 cs.length (cs.map .str) true],cI 0],[])))
       none))
     none → X = if unpB b k v = true then some (.tup [.agg [.lst 1 9 (jax b k v).length ((jax b k v).map .str) true],cI 0],[]) else some (.tup [.agg [.pv .nils],cI 14],[]) := fun cs hcs hsc X hX => by
    rw [hX]
    have f1 : isTb (PV.agg [PV.str b.name,PV.str b.glob,PV.sl b.cols.length (b.cols.map PV.str),PV.sl b.idxs.length (b.idxs.map PV.str)]) = true := jaA hb
    have f2 : isRw (PV.agg [PV.sl cs.length (cs.map .str)]) = true := jkS hsc
    have f3 : asTb (PV.agg [PV.str b.name,PV.str b.glob,PV.sl b.cols.length (b.cols.map PV.str),PV.sl b.idxs.length (b.idxs.map PV.str)]) = b := jai b
    have f4 : asRw (PV.agg [PV.sl cs.length (cs.map .str)]) = cs := jdk cs
    rw [f1,f2,f3,f4,dT c1]
    unfold unpB
    rw [hcs] at hpk ⊢
    cases hR : rowB b cs with
    | false => rfl
    | true =>
     obtain ⟨g1,g2⟩ := js1 hB hR
     rw [dT g1,dT (show (packL cs).length ≤ 1048576 by omega)]
     have e : (ByteArray.toList (bs (packL cs)) == ByteArray.toList v) = (decide (1 < b.cols.length) || v.data.toList.isEmpty) := by
      rw [joD,ByteArray.toList_eq,Bool.eq_iff_iff,beq_iff_eq]
      exact hpk
     rw [e]
     cases (decide (1 < b.cols.length) || v.data.toList.isEmpty) <;> rfl
   by_cases h1 : 1 < b.cols.length
   ·have hcs : jax b k v = k :: cutV v := by rw [jcc,if_pos h1]
    have hsc : shL (k :: cutV v) := ⟨by
     have h4 := (jdy (datas (cutV v))).1
     rw [(jcb v).1,List.length_map] at h4
     have hq : v.data.toList.length = v.size := by rw [Array.length_toList]; rfl
     rw [nqH]
     omega,fun u hu => by
     rcases List.mem_cons.1 hu with rfl | hu
     ·omega
     ·exact hsh.2 u hu⟩
    have hl := hsh.1
    have hcar : holds (jkb ⟨#[94]⟩) = true := jal rfl
    have b1 : Nat.beq ((cutV v).map PV.str).length ((cutV v).length * 1) = true := by rw [List.length_map,Nat.mul_one]; exact Nat.beq_refl _
    rw [dT (show (b.cols.length : Int) > 1 by omega),hcar,b1,dT (show v.size ≤ 1048576 by omega),dT (show 1 + (cutV v).length ≤ 140737488351232 by omega),dT (show (1 + (cutV v).length) * 16 ≤ 140737488355328 by omega),Nat.add_comm 1] at tree
    exact fin _ hcs hsc _ (tree.trans rfl)
   ·have hcs : jax b k v = [k] := by rw [jcc,if_neg h1]
    have hsc : shL [k] := ⟨by simp,fun u hu => by rw [List.mem_singleton.1 hu]; omega⟩
    rw [dF (show ¬ (b.cols.length : Int) > 1 by omega)] at tree
    exact fin _ hcs hsc _ (tree.trans rfl)
  refine ⟨jaq (by kernel_rfl),?_⟩
  rcases pick2 h with ⟨hc,he⟩ | ⟨hc1,hc,he⟩
  ·cases he
   simp only [nqE,decide_eq_true_eq] at hc
   obtain ⟨⟨⟨⟨h1,h2⟩,h3⟩,h4⟩,h5⟩ := hc
   obtain ⟨b,rfl,hb⟩ := jap h1
   have e4 : asTb (pTb b) = b := jai b
   rw [e4] at h4 h5 ⊢
   exact (key b hb h2 h3 h4).trans (by rw [if_pos h5])
  ·cases he
   simp only [nqE,decide_eq_true_eq] at hc
   obtain ⟨⟨⟨h1,h2⟩,h3⟩,h4⟩ := hc
   obtain ⟨b,rfl,hb⟩ := jap h1
   have e4 : asTb (pTb b) = b := jai b
   rw [h1,dT h2,dT h3,e4] at hc1
   rw [e4] at h4
   rw [h4] at hc1
   exact (key b hb h2 h3 h4).trans (by rw [if_neg (by rw [show unpB b k v = false from hc1]; exact Bool.false_ne_true)])
 ·cases h
theorem jib {l : List NodeT} (h : nodR l = true) {i : Nat} (hi : i < l.length) : ∃ a c,l[i].subs = [a,c] ∧ c.size ≤ 24 ∧ l[i].value.size ≤ 64 := by
 have := List.all_eq_true.1 h _ (List.getElem_mem hi)
 obtain ⟨h1,h2⟩ := andE this
 obtain ⟨h2,h3⟩ := andE h2
 have h1 := nqI h1
 have h2 := nqI h2
 have h3 := nqI h3
 match hs : l[i].subs,h1 with
 | [a,c],_ =>
  rw [hs] at h2
  exact ⟨a,c,rfl,h2,h3⟩
theorem js3 {x : NodeT} (h : nodeB x = true) : x.value.size ≤ 64 ∧ ∀ s ∈ x.subs,s.size ≤ 24 := by
 unfold nodeB jdb subsB at h
 simp only [nqE,decide_eq_true_eq] at h
 refine ⟨h.2,fun s hs => ?_⟩
 have := List.all_eq_true.1 h.1.2.2 s hs
 unfold subB at this
 simp only [nqE,decide_eq_true_eq] at this
 exact this.2
theorem jdL {t : List NodeT} (h : treeB t = true) (b : TblT) : nodR (keepR t b) = true := by
 obtain ⟨_,hall,_⟩ := jsT h
 refine List.all_eq_true.2 fun x hx => ?_
 obtain ⟨hm,hr⟩ := jix hx
 have hb := hall x hm
 unfold rwN at hr
 obtain ⟨_,hr⟩ := andE hr
 obtain ⟨h2,_⟩ := andE hr
 have h2 := nqI h2
 have hv : x.value.size ≤ 64 ∧ ∀ s ∈ x.subs,s.size ≤ 24 := js3 hb
 rw [dT h2,dT hv.1,Bool.and_true,Bool.true_and]
 match hs : x.subs,h2 with
 | [a,c],_ => exact dT (hv.2 c (by rw [hs]; simp))
theorem jsx (t : List NodeT) (h : shT t) (b : TblT) (hb : shTb b) : ∀ (m i : Nat),m + i = t.length →
  LoopsTo (rdB brC Tryz.prog [] jmz jlA Tryz.f75 3 []) [aBx 2 [.pv (pNs t)],bxTb 3 b,aFn 5 (keepR (t.take i) b),aI i] (.exit 0,[aFn 5 (keepR t b)]) := by
 have hl := h.1
 intro m
 induction m with
 | zero =>
  intro i hm
  obtain rfl : i = t.length := by omega
  rw [List.take_length]
  refine .done _ _ ((jl3 t b (keepR t b) t.length).trans ?_)
  try delta zzar0
  rw [dF (by omega)]
  rfl
 | succ m ih =>
  intro i hm
  have hi : i < t.length := by omega
  have ih' := ih (i + 1) (by omega)
  have hkl := jd8 (t.take i) b
  rw [List.length_take] at hkl
  have tree := jl3 t b (keepR (t.take i) b) i
  revert tree; try delta zzar0; intro tree
  have b3 : ∀ (x y z : PV),Nat.beq (List.length [x,y,z]) (1 * 3) = true := fun _ _ _ => rfl
  simp (disch := omega) only [dT,nqF,jaW t i hi,b3,nqH,List.headD_cons,List.tail_cons,PV.isStr,PV.asStr,PV.isSl,PV.slN,PV.slL,ble3,wrap1,Bool.and_true,Bool.true_and] at tree
  have ek : keepR (t.take (i + 1)) b = keepR (t.take i) b ++ (if rwN b t[i] = true then [t[i]] else []) := by
   rw [List.take_succ_eq_append_getElem hi,jdM,jcu]
   unfold noR
   rw [Bool.not_not]
  have hskip : rwN b t[i] = false → keepR (t.take (i + 1)) b = keepR (t.take i) b := fun e => by rw [ek,e,if_neg Bool.false_ne_true,List.append_nil]
  unfold rwN at ek hskip
  cases h1 : (t[i].name.toList == b.glob.toList) with
  | false =>
   rw [h1] at tree hskip
   rw [hskip rfl] at ih'
   exact .step _ _ _ tree ih'
  | true =>
   rw [h1] at tree hskip ek
   obtain ⟨u,hs⟩ : ∃ u,t[i].subs = u := ⟨_,rfl⟩
   rw [hs] at tree hskip ek
   match u with
   | [] =>
    rw [hskip rfl] at ih'
    exact .step _ _ _ tree ih'
   | a :: l =>
    by_cases h2 : (a :: l).length = 2
    ·have h3 : ((((a :: l).length : Nat) : Int) == 2) = true := by rw [h2]; rfl
     have h4 : (0 : Int) < (((a :: l).length : Nat) : Int) := by rw [h2]; decide
     rw [h3,dT h4] at tree
     rw [dT h2] at hskip ek
     cases h5 : (a.toList == [114]) with
     | false =>
      have h5' := h5
      rw [show ((a :: l).headD ⟨#[]⟩) = a from rfl,h5] at hskip
      rw [hskip rfl] at ih'
      refine .step _ _ _ (tree.trans ?_) ih'
      show brC true (brC true (brC true (brC (a.toList == [114]) _ _) _) _) _ = _
      rw [h5]
      rfl
     | true =>
      rw [show ((a :: l).headD ⟨#[]⟩) = a from rfl,h5] at ek
      replace ek : keepR (t.take (i + 1)) b = keepR (t.take i) b ++ [t[i]] := ek
      rw [ek] at ih'
      unfold aFn at ih'
      rw [jdS,nqG,List.length_singleton,show encN [t[i]] = [PV.str t[i].name,PV.sl (a :: l).length ((a :: l).map PV.str),PV.str t[i].value] from by
       show [PV.str t[i].name,PV.sl t[i].subs.length (t[i].subs.map PV.str),PV.str t[i].value] = _
       rw [hs]] at ih'
      refine .step _ _ _ (tree.trans ?_) ih'
      show brC true (brC true (brC true (brC (a.toList == [114]) _ _) _) _) _ = _
      rw [h5]
      rfl
    ·have h3 : ((((a :: l).length : Nat) : Int) == 2) = false := beq_eq_false_iff_ne.2 (by omega)
     rw [h3] at tree
     rw [dF h2] at hskip
     rw [hskip rfl] at ih'
     exact .step _ _ _ tree ih'
theorem jwo : jab Tryz.prog 75 E_rowNs := jbp mix (tab := []) trivial (lp := jmz) (LO := jlA) ⟨Tryz.func75,by kernel_rfl,by kernel_rfl⟩ (by kernel_rfl) fun ivs res bxs h => by
 unfold E_rowNs at h
 split at h
 ·rename_i p q
  obtain ⟨hc,he⟩ := pick1 h
  cases he
  obtain ⟨k0,k1⟩ := andE hc
  obtain ⟨t,rfl,h_t⟩ := jae k0
  obtain ⟨b,rfl,h_b⟩ := jap k1
  have e_t : asT (pT t) = t := jaR t
  have e_b : asTb (pTb b) = b := jai b
  rw [e_t,e_b]
  have tree := jrF t b
  have i1 : isNs (pNs t) = true := jbr (enc := pNs) h_t
  have a1 : asNs (pNs t) = t := jau t
  rw [tbI h_b,tbA,i1,a1,jbO] at tree
  refine ⟨jas 3 (by kernel_rfl) (by kernel_rfl) (by kernel_rfl) ?_,_,tree,rfl,rfl⟩
  intro ls e ls' hl
  replace hl : pickA (jht ls) = some (e,ls') := hl
  unfold jht at hl
  split at hl
  ·rename_i y p x s g q r z e n l i
   obtain ⟨hc,he⟩ := pick1 hl
   cases he
   obtain ⟨hc,g8⟩ := andE hc
   obtain ⟨hc,g7⟩ := andE hc
   obtain ⟨hc,g6⟩ := andE hc
   obtain ⟨hc,g5⟩ := andE hc
   obtain ⟨hc,g4⟩ := andE hc
   obtain ⟨hc,g3⟩ := andE hc
   obtain ⟨hc,g2⟩ := andE hc
   obtain ⟨g0,g1⟩ := andE hc
   obtain ⟨b,rfl,rfl,rfl,rfl,h_b⟩ := jbj g0
   obtain ⟨t,rfl,h_t⟩ := jae g1
   have e_t : asNs (pNs t) = t := jau t
   obtain rfl := nqB g2
   obtain rfl := nqB g3
   obtain rfl := nqB g4
   obtain rfl := nqB g5
   obtain rfl := nqB g6
   obtain rfl := ja8 g7
   rw [eq_of_beq g8,tbA,e_t]
   have := jsx t h_t b h_b t.length 0 rfl
   rw [List.take_zero] at this
   exact this
  ·cases hl
 ·cases h
end
section
open Go.RowKit
def sdb0 : List (FuncId × Entry) := (55,E_eqNds) :: (56,E_eqSt) :: (69,E_mkNd) :: (70,E_mkS2) :: [(72,E_hdS)]
def jwY (br : Br) (t u : List NodeT) := evB br Tryz.prog sdb0 [] LO0 Tryz.f16 [cP (pT t),cP (pT u)]
def E_eqTr : Entry := fun ivs => match ivs with
 | [.cv (.pv p),.cv (.pv q)] => [(isT p && isT q,cB (holds (asT p = asT q)),[])]
 | _ => []
def jwI (br : Br) (x y : TblT) := evB br Tryz.prog sdb0 [] LO0 Tryz.f17 [cP (pTb x),cP (pTb y)]
def E_eqTb : Entry := fun ivs => match ivs with
 | [.cv (.pv p),.cv (.pv q)] => [(isTb p && isTb q,cB (holds (asTb p = asTb q)),[])]
 | _ => []
abbrev jp9 : List (Nat × List Nat × List Nat) := [(1000000,[],[2,6]),(1000001,[1600128],[])]
def jxs (br : Br) (n : Nat) (l : List PV) (k : Int) := evB br Tryz.prog sdb0 jp9 LO0 Tryz.f24 [.lk true [] 3 (70 + 2000000) n l [],cI k]
def E_mkTr : Entry := fun ivs => match ivs with
 | [.lk true [] 3 e n l [],.cv (.pv (.int .i64 k))] =>
  [(Nat.beq e (70 + 2000000) && isNs (.sl n l) && mrkB k && holds (mkNdE k (asNs (.sl n l)) ≤ 800000000),cI (mkNdE k (asNs (.sl n l))),[[.dls 3 70 n (encN (mkNds k (asNs (.sl n l))))]])]
 | _ => []
abbrev joS : List (Nat × List Nat × List Nat) := [(1000000,[],[2,6,10]),(1000001,[1600128,1600192],[])]
def jxf (br : Br) (s g : ByteArray) (cs is : List ByteArray) (k : Int) := evB br Tryz.prog sdb0 joS LO0 Tryz.f25 [.lag [.pv (.str s),.pv (.str g),.lst 1 9 cs.length (cs.map .str) true,.lst 1 9 is.length (is.map .str) true],cI k]
def E_mkTb : Entry := fun ivs => match ivs with
 | [.lag [.pv (.str s),.pv (.str g),.lst 1 e n l true,.lst 1 f m u true],.cv (.pv (.int .i64 k))] =>
  [(isL (.sl n l) && isL (.sl m u) && Nat.beq e 9 && Nat.beq f 9 && decide (1 ≤ k) && holds (k ≤ 800000000),cI (k + n + m),[[.pv (.str s),.pv (.str g),.lst 1 9 n ((mkL k (asL (.sl n l))).map .str) true,.lst 1 9 m ((mkL (k + n) (asL (.sl m u))).map .str) true]])]
 | _ => []
end
section
theorem jpH (t : List NodeT) (u : List NodeT) : jwY brC t u = brC (isNs (PV.sl t.length (encN t)) && isNs (PV.sl u.length (encN u))) (brC (!holds (asNs (PV.sl t.length (encN t)) = asNs (PV.sl u.length (encN u)))) (some ((.cv (.pv (.bool false)),[]))) (some ((.cv (.pv (.bool true)),[])))) none := by kernel_rfl
theorem jp0 (x : TblT) (y : TblT) : jwI brC x y = brC (!ByteArray.toList x.name == ByteArray.toList y.name) (some ((.cv (.pv (.bool false)),[]))) (brC (!ByteArray.toList x.glob == ByteArray.toList y.glob) (some ((.cv (.pv (.bool false)),[]))) (brC (isL (PV.sl x.cols.length (List.map PV.str x.cols)) && isL (PV.sl y.cols.length (List.map PV.str y.cols))) (brC (!holds (asL (PV.sl x.cols.length (List.map PV.str x.cols)) = asL (PV.sl y.cols.length (List.map PV.str y.cols)))) (some ((.cv (.pv (.bool false)),[]))) (brC (isL (PV.sl x.idxs.length (List.map PV.str x.idxs)) && isL (PV.sl y.idxs.length (List.map PV.str y.idxs))) (brC (!holds (asL (PV.sl x.idxs.length (List.map PV.str x.idxs)) = asL (PV.sl y.idxs.length (List.map PV.str y.idxs)))) (some ((.cv (.pv (.bool false)),[]))) (some ((.cv (.pv (.bool true)),[])))) none)) none)) := by kernel_rfl
theorem joB (n : Nat) (l : List PV) (k : Int) : jxs brC n l k = brC (Nat.beq (70 + 2000000 - 2000000 + 2000000) 2000070 && isNs (PV.sl n l) && mrkB k && holds (mkNdE k (asNs (PV.sl n l)) ≤ 800000000)) (brC (Nat.beq n n) (some ((.cv (.pv (.int .i64 (mkNdE k (asNs (PV.sl n l))))),[[.dls 3 70 n (encN (mkNds k (asNs (PV.sl n l))))]]))) none) none := by kernel_rfl
theorem jpK (s : ByteArray) (g : ByteArray) (cs : List ByteArray) (is : List ByteArray) (k : Int) : jxf brC s g cs is k = brC (isL (PV.sl cs.length (List.map PV.str cs)) && Nat.beq 9 9 && decide (1 ≤ k) && holds (k ≤ 900000000)) (brC (isL (PV.sl is.length (List.map PV.str is)) && Nat.beq 9 9 && decide (1 ≤ k + (↑(List.length (asL (PV.sl cs.length (List.map PV.str cs)))) : Int)) && holds (k + (↑(List.length (asL (PV.sl cs.length (List.map PV.str cs)))) : Int) ≤ 900000000)) (brC (Nat.beq cs.length cs.length && (Nat.beq is.length is.length && true)) (some ((.cv (.pv (.int .i64 (k + (↑(List.length (asL (PV.sl cs.length (List.map PV.str cs)))) : Int) + (↑(List.length (asL (PV.sl is.length (List.map PV.str is)))) : Int)))),[[.pv (.str s),.pv (.str g),.lst 1 9 cs.length (List.map PV.str (mkL k (asL (PV.sl cs.length (List.map PV.str cs))))) true,.lst 1 9 is.length (List.map PV.str (mkL (k + (↑(List.length (asL (PV.sl cs.length (List.map PV.str cs)))) : Int)) (asL (PV.sl is.length (List.map PV.str is))))) true]]))) none) none) none := by kernel_rfl
end
section
open Go.RowKit
theorem jhy : jad Tryz.prog sdb0 := ⟨js5,joA,ju5,ju0,jtA,trivial⟩
theorem tbEq (x y : TblT) : holds (x = y) = ((x.name.toList == y.name.toList) && ((x.glob.toList == y.glob.toList) && (holds (x.cols = y.cols) && holds (x.idxs = y.idxs)))) := by
 rw [Bool.eq_iff_iff]
 constructor
 ·intro h
  have e := jan h
  subst e
  rw [jal (rfl : x.cols = x.cols),jal (rfl : x.idxs = x.idxs),beq_self_eq_true,beq_self_eq_true]
  rfl
 ·intro h
  simp only [nqE,beq_iff_eq] at h
  obtain ⟨h1,h2,h3,h4⟩ := h
  have h1 := ba_tl h1
  have h2 := ba_tl h2
  have h3 := jan h3
  have h4 := jan h4
  cases x
  cases y
  dsimp only at h1 h2 h3 h4
  rw [h1,h2,h3,h4]
  exact jal rfl
theorem jvU : jab Tryz.prog 16 E_eqTr := jac mix jhy (lp := []) (LO := LO0) ⟨Tryz.func16,by kernel_rfl,by kernel_rfl⟩ (by kernel_rfl) fun ivs res bxs h => by
 unfold E_eqTr at h
 split at h
 ·rename_i p q
  obtain ⟨hc,he⟩ := pick1 h
  cases he
  obtain ⟨k0,k1⟩ := andE hc
  obtain ⟨t,rfl,h_t⟩ := jae k0
  obtain ⟨u,rfl,h_u⟩ := jae k1
  have e_t : asT (pT t) = t := jaR t
  have e_u : asT (pT u) = u := jaR u
  rw [e_t,e_u]
  refine ⟨jaq (by kernel_rfl),(jpH t u).trans ?_⟩
  rw [show isNs (PV.sl t.length (encN t)) = true from jbt h_t,show isNs (PV.sl u.length (encN u)) = true from jbt h_u,show asNs (PV.sl t.length (encN t)) = t from jau t,show asNs (PV.sl u.length (encN u)) = u from jau u]
  cases holds (t = u) <;> rfl
 ·cases h
theorem jue : jab Tryz.prog 17 E_eqTb := jac mix jhy (lp := []) (LO := LO0) ⟨Tryz.func17,by kernel_rfl,by kernel_rfl⟩ (by kernel_rfl) fun ivs res bxs h => by
 unfold E_eqTb at h
 split at h
 ·rename_i p q
  obtain ⟨hc,he⟩ := pick1 h
  cases he
  obtain ⟨k0,k1⟩ := andE hc
  obtain ⟨x,rfl,h_x⟩ := jae k0
  obtain ⟨y,rfl,h_y⟩ := jae k1
  have e_x : asTb (pTb x) = x := jai x
  have e_y : asTb (pTb y) = y := jai y
  rw [e_x,e_y,tbEq]
  refine ⟨jaq (by kernel_rfl),(jp0 x y).trans ?_⟩
  have i1 := jaj h_x.2.2.1
  have i2 := jaj h_y.2.2.1
  have i3 := jaj h_x.2.2.2
  have i4 := jaj h_y.2.2.2
  simp only [isL,i1,i2,i3,i4,jaf,Bool.and_true]
  generalize (x.name.toList == y.name.toList) = a
  generalize (x.glob.toList == y.glob.toList) = b
  generalize holds (x.cols = y.cols) = c
  generalize holds (x.idxs = y.idxs) = d
  cases a <;> cases b <;> cases c <;> cases d <;> rfl
 ·cases h
theorem juT : jab Tryz.prog 24 E_mkTr := jac mix jhy (lp := jp9) (LO := LO0) ⟨Tryz.func24,by kernel_rfl,by kernel_rfl⟩ (by kernel_rfl) fun ivs res bxs h => by
 unfold E_mkTr at h
 split at h
 ·rename_i e n l k
  obtain ⟨hc,he⟩ := pick1 h
  cases he
  obtain ⟨hc,k3⟩ := andE hc
  obtain ⟨hc,k2⟩ := andE hc
  obtain ⟨k0,k1⟩ := andE hc
  obtain rfl := nqB k0
  refine ⟨jaq (by kernel_rfl),(joB n l k).trans ?_⟩
  rw [k1,k2,k3,Nat.beq_refl n]
  rfl
 ·cases h
theorem juk : jab Tryz.prog 25 E_mkTb := jac mix jhy (lp := joS) (LO := LO0) ⟨Tryz.func25,by kernel_rfl,by kernel_rfl⟩ (by kernel_rfl) fun ivs res bxs h => by
 unfold E_mkTb at h
 split at h
 ·rename_i s g e n l f m u k
  obtain ⟨hc,he⟩ := pick1 h
  cases he
  obtain ⟨hc,k5⟩ := andE hc
  obtain ⟨hc,k4⟩ := andE hc
  obtain ⟨hc,k3⟩ := andE hc
  obtain ⟨hc,k2⟩ := andE hc
  obtain ⟨k0,k1⟩ := andE hc
  obtain rfl := nqB k2
  obtain rfl := nqB k3
  obtain ⟨t,q_t,h_t⟩ := jae k0
  injection q_t with qa qb
  subst qa
  subst qb
  obtain ⟨v,q_v,h_v⟩ := jae k1
  injection q_v with qa qb
  subst qa
  subst qb
  have e_t : asL (.sl t.length (t.map .str)) = t := jaf t
  have e_v : asL (.sl v.length (v.map .str)) = v := jaf v
  refine ⟨jaq (by kernel_rfl),(jpK s g t v k).trans ?_⟩
  have hl := h_t.1
  have g4 := nqI k4
  have g5 := jan k5
  have q1 : holds (k ≤ 900000000) = true := jal (by omega)
  have q2 : holds (k + (t.length : Int) ≤ 900000000) = true := jal (by omega)
  rw [e_t,e_v,k0,k1,k4,q1,q2,dT (show (1 : Int) ≤ k + (t.length : Int) by omega),Nat.beq_refl t.length,Nat.beq_refl v.length]
  rfl
 ·cases h
theorem jvJ {l : List ByteArray} {k : Int} (h : 0 ≤ szL l k) : szL l k + l.length ≤ k := by
 unfold szL at h ⊢
 by_cases hc : k - (l.length : Int) < 0
 ·rw [dT hc,cond_true] at h; omega
 ·rw [dF hc,cond_false] at h ⊢
  by_cases hd : szX l (k - (l.length : Int)) < 0
  ·rw [dT hd,cond_true] at h; omega
  ·rw [dF hd,cond_false]
   have h1 := jlP l (k - l.length)
   omega
theorem jsP {x : NodeT} {k : Int} (h : 0 ≤ szNd x k) (hk : k ≤ 1048576) : szNd x k + x.subs.length ≤ k := by
 unfold szNd at h ⊢
 by_cases hc : k - (x.name.size : Int) < 0
 ·rw [dT hc,cond_true] at h; omega
 ·rw [dF hc,cond_false] at h ⊢
  by_cases hd : szL x.subs (k - (x.name.size : Int)) < 0
  ·rw [dT hd,cond_true] at h; omega
  ·rw [dF hd,cond_false] at h ⊢
   have h1 := jvJ (l := x.subs) (k := k - (x.name.size : Int)) (by omega)
   by_cases hf : szL x.subs (k - (x.name.size : Int)) - (x.value.size : Int) < 0
   ·rw [dT hf,cond_true] at h; omega
   ·rw [dF hf,cond_false]
    omega
theorem jmm : ∀ (l : List NodeT) (k j : Int),0 ≤ szNX l j → j ≤ 1048576 → mkNdE k l ≤ k + 2 * l.length + (j - szNX l j)
 | [],k,j,h,hj => by
  show k ≤ _
  simp [szNX]
 | x :: t,k,j,h,hj => by
  unfold szNX at h ⊢
  by_cases hd : szNd x j < 0
  ·rw [dT hd,cond_true] at h
   omega
  ·rw [dF hd,cond_false] at h
   rw [dF hd,cond_false]
   have h1 := jsP (x := x) (by omega) hj
   have ih := jmm t (k + 2 + (x.subs.length : Int)) (szNd x j) h (by omega)
   show mkNdE (k + 2 + (x.subs.length : Int)) t ≤ _
   rw [nqH]
   omega
theorem jtW {l : List NodeT} {k : Int} (h : 0 ≤ szTr l k) (hk : k ≤ 1048576) : mkNdE 1 l ≤ 4000000 := by
 unfold szTr szNs at h
 by_cases hc : k - (l.length : Int) < 0
 ·rw [dT hc,cond_true] at h; cases h
 ·rw [dF hc,cond_false] at h
  by_cases hd : szNX l (k - (l.length : Int)) < 0
  ·rw [dT hd,cond_true] at h; cases h
  ·rw [dF hd,cond_false] at h
   have := jmm l 1 (k - l.length) (by omega) (by omega)
   omega
end
section
open Go.RowKit
structure ChT where
 kind : Int
 name : ByteArray
 subs : List ByteArray
 value : ByteArray
deriving Inhabited
abbrev pC (x : ChT) : PV := .agg [.int .i64 x.kind,.str x.name,pL x.subs,.str x.value]
def encC : List ChT → List PV
 | [] => []
 | x :: t => .int .i64 x.kind :: .str x.name :: pL x.subs :: .str x.value :: encC t
abbrev pCs (t : List ChT) : PV := .sl t.length (encC t)
def shC (x : ChT) : Prop := x.name.size ≤ 1048576 ∧ shL x.subs ∧ x.value.size ≤ 1048576
def shCs (t : List ChT) : Prop := t.length ≤ 1048576 ∧ ∀ x ∈ t,shC x
theorem jlU : ∀ {t u : List ChT},encC t = encC u → t = u
 | [],[],_ => rfl
 | [],_ :: _,h => by cases h
 | _ :: _,[],h => by cases h
 | x :: t,y :: u,h => by
  unfold encC at h
  injection h with h0 h
  injection h with h1 h
  injection h with h2 h
  injection h with h3 h
  injection h0 with _ h0
  injection h1 with h1
  injection h3 with h3
  have h2 := jdO _ _ h2
  have := jlU h
  cases x; cases y
  simp_all
theorem jvN (t u : List ChT) (h : pCs t = pCs u) : t = u := by injection h with _ h; exact jlU h
theorem jxm (x y : ChT) (h : pC x = pC y) : x = y := by
 injection h with h
 injection h with h0 h
 injection h with h1 h
 injection h with h2 h
 injection h with h3 h
 injection h0 with _ h0
 injection h1 with h1
 injection h3 with h3
 have h2 := jdO _ _ h2
 cases x; cases y
 simp_all
abbrev isC (p : PV) : Bool := isE pC shC p
abbrev asC (p : PV) : ChT := asE pC p
abbrev isCs (p : PV) : Bool := isE pCs shCs p
abbrev asCs (p : PV) : List ChT := asE pCs p
theorem jty {x : ChT} (h : shC x) : isE pC shC (PV.agg [PV.int .i64 x.kind,PV.str x.name,PV.sl x.subs.length (x.subs.map PV.str),PV.str x.value]) = true := jbr (enc := pC) h
theorem jol (x : ChT) : asE pC (PV.agg [PV.int .i64 x.kind,PV.str x.name,PV.sl x.subs.length (x.subs.map PV.str),PV.str x.value]) = x := jdW jxm x
theorem jdg {t : List ChT} (h : shCs t) : isE pCs shCs (PV.sl t.length (encC t)) = true := jbr (enc := pCs) h
theorem jbq (t : List ChT) : asE pCs (PV.sl t.length (encC t)) = t := jdW jvN t
theorem je8 : ∀ t : List ChT,(encC t).length = t.length * 4
 | [] => rfl
 | x :: t => by
  unfold encC
  rw [nqH,nqH,nqH,nqH,je8 t,nqH]
  omega
theorem jdA : ∀ (t : List ChT) (i : Nat) (h : i < t.length),(encC t).drop (i * 4) = .int .i64 t[i].kind :: .str t[i].name :: .sl t[i].subs.length (t[i].subs.map PV.str) :: .str t[i].value :: encC (t.drop (i + 1))
 | [],i,h => by cases h
 | x :: t,0,h => rfl
 | x :: t,i + 1,h => by
  have := jdA t i (by simpa using h)
  rw [show (i + 1) * 4 = i * 4 + 4 by omega]
  show List.drop (i * 4 + 4) (.int .i64 x.kind :: .str x.name :: pL x.subs :: .str x.value :: encC t) = _
  rw [List.drop_succ_cons,List.drop_succ_cons,List.drop_succ_cons,List.drop_succ_cons,this]
  simp only [List.getElem_cons_succ,List.drop_succ_cons]
theorem jdP : ∀ t u : List ChT,encC (t ++ u) = encC t ++ encC u
 | [],u => rfl
 | x :: t,u => by
  show .int .i64 x.kind :: .str x.name :: pL x.subs :: .str x.value :: encC (t ++ u) = _
  rw [jdP t u]
  rfl
theorem jtE {t : List ChT} (h : shCs t) {i : Nat} (hi : i < t.length) : shC t[i] := h.2 _ (List.getElem_mem hi)
end
section
open Go.RowKit
def mkCh (k : Int) (x : ChT) : ChT := ⟨(k),mkV (k + 1),mkL (k + 2) x.subs,mkV (k + 2 + (x.subs.length : Int))⟩
def mkChs : Int → List ChT → List ChT
 | _,[] => []
 | k,x :: t => mkCh k x :: mkChs (k + 3 + (x.subs.length : Int)) t
def mkChE : Int → List ChT → Int
 | k,[] => k
 | k,x :: t => mkChE (k + 3 + (x.subs.length : Int)) t
abbrev jbS : List (Nat × List Nat × List Nat) := [(2,[0,1,5],[0,1]),(1000000,[],[31]),(1000001,[1600528],[])]
abbrev aWCh0 : AV × Option Ob := (.own 0,some (.lst 4 75 0 [] true))
abbrev aWCh (l : List PV) (n : Nat) : AV × Option Ob := (.own 0,some (.dls 4 75 n l true none))
def jfK (ls : LS) : List (Bool × Ex × LS) := match ls with
 | [(.own x,some (.dls 4 e n l true none)),(.pv (.int .i64 k),none),(.pv (.int .i64 i),none)] =>
  [(isCs (.sl n l) && Nat.beq e 75 && Nat.beq x 0 && (i == 0) && decide (1 ≤ k) && holds (k ≤ 100000000) && holds (mkChE k (asCs (.sl n l)) ≤ 800000000),.exit 0,[aWCh (encC (mkChs k (asCs (.sl n l)))) n,aI (mkChE k (asCs (.sl n l)))])]
 | [(.own x,some (.lst 4 e n l true)),(.pv (.int .i64 k),none),(.pv (.int .i64 i),none)] =>
  [(Nat.beq e 75 && Nat.beq x 0 && Nat.beq n 0 && nilB l && (i == 0),.exit 0,[aWCh0,aI k])]
 | _ => []
def jdD : LoopT := fun _ ls => match ls with
 | [(.pv (.sl n l),none),(.pv (.int .i64 k),none),(.pv (.int .i64 i),none)] =>
  [(Nat.beq n 0 && nilB l && (i == 0),.exit 0,[aP (.sl 0 []),aI k])]
 | _ => []
def jdq : LoopT := fun k ls => bif Nat.beq k 2 then jfK ls else []
def jwQ (br : Br) (n : Nat) (l : List PV) (k i : Int) := rdB br Tryz.prog kfb1 jbS jdq Tryz.f27 2 [0] [aWCh l n,aI k,aI i]
def jvO (br : Br) (k i : Int) := rdB br Tryz.prog kfb1 jbS jdq Tryz.f27 2 [0] [aWCh0,aI k,aI i]
def juN (br : Br) (k i : Int) := rdB br Tryz.prog kfb1 jbS jdD Tryz.f27 2 [] [aP (.sl 0 []),aI k,aI i]
def jv1 (br : Br) (n : Nat) (l : List PV) (k : Int) := evB br Tryz.prog kfb1 jbS jdq Tryz.f27 [.lk false [] 4 (75 + 2000000) n l [],cI k]
def jvq (br : Br) (k : Int) := evB br Tryz.prog kfb1 jbS jdq Tryz.f27 [.lk false [] 4 75 0 [] [],cI k]
def jtM (br : Br) (k : Int) := evB br Tryz.prog kfb1 jbS jdD Tryz.f27 [cP (.sl 0 []),cI k]
def E_mkCha : Entry := fun ivs => match ivs with
 | [.lk false [] 4 e n l [],.cv (.pv (.int .i64 k))] =>
  [(Nat.beq e (75 + 2000000) && isCs (.sl n l) && mrkB k && holds (mkChE k (asCs (.sl n l)) ≤ 800000000),cI (mkChE k (asCs (.sl n l))),[[.dls 4 75 n (encC (mkChs k (asCs (.sl n l))))]]),
   (Nat.beq e 75 && Nat.beq n 0 && nilB l,cI k,[[.lst 4 75 0 [] true]])]
 | _ => []
def E_mkChb : Entry := fun ivs => match ivs with
 | [.cv (.pv (.sl n l)),.cv (.pv (.int .i64 k))] => [(Nat.beq n 0 && nilB l,cI k,[])]
 | _ => []
def E_mkCh : Entry := fun ivs => E_mkCha ivs ++ E_mkChb ivs
abbrev jie : List (Nat × List Nat × List Nat) := [(2,[0,1,5],[1])]
def jfL (ls : LS) : List (Bool × Ex × LS) := match ls with
 | [(.pv p,none),(.pv (.int .i64 k),none),(.pv (.int .i64 i),none)] =>
  [(isCs p && (i == 0) && decide (1 ≤ k) && holds (k ≤ 100000000) && holds (mkChE k (asCs p) ≤ 800000000) && holds (asCs p = mkChs k (asCs p)),.exit 0,[aI (mkChE k (asCs p))])]
 | _ => []
def jin : LoopT := fun k ls => bif Nat.beq k 2 then jfL ls else []
def jxg (br : Br) (l : List ChT) (k i : Int) := rdB br Tryz.prog kfb4 jie jin Tryz.f28 2 [] [aP (pCs l),aI k,aI i]
def jxa (br : Br) (l : List ChT) (k : Int) := evB br Tryz.prog kfb4 jie jin Tryz.f28 [cP (pCs l),cI k]
def E_hdCh : Entry := fun ivs => match ivs with
 | [.cv (.pv p),.cv (.pv (.int .i64 k))] => [(isCs p && mrkB k && holds (mkChE k (asCs p) ≤ 800000000) && holds (asCs p = mkChs k (asCs p)),cI (mkChE k (asCs p)),[])]
 | _ => []
def jw9 (br : Br) (x y : ChT) := evB br Tryz.prog kfb2 [] LO0 Tryz.f68 [cP (pC x),cP (pC y)]
def E_eqCh : Entry := fun ivs => match ivs with
 | [.cv (.pv p),.cv (.pv q)] => [(isC p && isC q,cB (holds (asC p = asC q)),[])]
 | _ => []
def eqbCh : List (FuncId × Entry) := [(68,E_eqCh)]
abbrev jd3 : List (Nat × List Nat × List Nat) := [(4,[0,1,5],[0,4])]
def jeh (ls : LS) : List (Bool × Ex × LS) := match ls with
 | [(.pv p,none),(.pv q,none),(.pv (.int .i64 i),none)] =>
  [(isCs p && isCs q && (i == 0) && decide ((asCs p).length = (asCs q).length) && holds (asCs p = asCs q),.exit 0,[aP p,aX]),
   (isCs p && isCs q && (i == 0) && decide ((asCs p).length = (asCs q).length),.ret,[aP p,aB false])]
 | _ => []
def jdI : LoopT := fun k ls => bif Nat.beq k 4 then jeh ls else []
def juU (br : Br) (l u : List ChT) (i : Int) := rdB br Tryz.prog eqbCh jd3 jdI Tryz.f22 4 [] [aP (pCs l),aP (pCs u),aI i]
def juH (br : Br) (l u : List ChT) := evB br Tryz.prog eqbCh jd3 jdI Tryz.f22 [cP (pCs l),cP (pCs u)]
def E_eqChs : Entry := fun ivs => match ivs with
 | [.cv (.pv p),.cv (.pv q)] => [(isCs p && isCs q,cB (holds (asCs p = asCs q)),[])]
 | _ => []
end
end
end Go.Proofs.YtbeebeamdjbkmaaGreatDoor
