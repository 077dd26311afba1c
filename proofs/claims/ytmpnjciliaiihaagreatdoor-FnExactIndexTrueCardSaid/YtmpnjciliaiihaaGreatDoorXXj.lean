import Derived.Test.YtmpnjciliaiihaaGreatDoorXXh
import Derived.Test.YtmpnjciliaiihaaGreatDoorXXi
import Derived.Laws.Externs
import Derived.WalkKit
import Derived.Lib.Walk
import Derived.Lib.SliceRun
import Derived.OwnWalk
import Derived.Laws.Cover3
import Derived.Test.YtmpnjciliaiihaaGreatDoorXXg
import Derived.Test.YtmpnjciliaiihaaGreatDoorXXe
import Derived.Test.YtmpnjciliaiihaaGreatDoorXXf
namespace Go.Proofs.YtmpnjciliaiihaaGreatDoor
open _root_.ByteArray (size toList)
open Int (toNat)
open Go.IntKind (wrap)
open List (drop headD length map tail)
open Nat (beq)
open PV (agg asStr int isSl isStr nilp sl slL slN str)
open Tryz (prog)
open Go.RowKit
noncomputable section
set_option linter.unusedVariables false
set_option linter.unusedSimpArgs false
set_option maxRecDepth 100000
def rwN(b:TblT)(x:NodeT):Bool:=(x.name.toList==b.glob.toList)&&(decide (x.subs.length=2)&&((x.subs.headD ⟨#[]⟩).toList==[114]))
def noR(b:TblT)(x:NodeT):Bool:=!rwN b x
def keepR(t:List NodeT)(b:TblT):List NodeT:=t.filter fun x=>!noR b x
def q_isR(br:Br)(b:TblT)(x:NodeT):=evB br prog [] [] LO0 Tryz.f83 [cP (pTb b),cP (pN x)]
def E_isR:Entry:=fun ivs=>match ivs with
 |[.cv (.pv p),.cv (.pv q)]=>[(isTb p&&isN q,cB (rwN (asTb p) (asN q)),[])]
 |_=>[]
def scb1:List (FuncId×Entry):=[(83,E_isR)]
abbrev rcl(b:TblT):PV:=.clo 82 [.ref [.str b.name,.str b.glob,pL b.cols,pL b.idxs]]
def q_rn1(br:Br)(x:NodeT)(b:TblT):=evB br prog scb1 [] LO0 Tryz.f82 [cP (pN x),cP (.ref [.str b.name,.str b.glob,pL b.cols,pL b.idxs])]
def E_rn1:Entry:=fun ivs=>match ivs with
 |[.cv (.pv p),.cv (.pv (.ref [.str s,.str g,q,r]))]=>[(isN p&&isTb (.agg [.str s,.str g,q,r]),cB (noR (asTb (.agg [.str s,.str g,q,r])) (asN p)),[])]
 |_=>[]
def scb2:List (FuncId×Entry):=(82,E_rn1)::scb1
def goIdR(t:List NodeT)(b:TblT):Nat:=(t.takeWhile fun x=>!noR b x).length
abbrev jhI:List (Nat×List Nat×List Nat):=[(2,[0,1,7,8],[4])]
def jfo:LoopT:=fun _ ls=>match ls with
 |[(.pv p,none),(.pv (.clo f [.ref [.str s,.str g,q,r]]),none),(.pv (.int .i64 n),none),(.pv (.int .i64 i),none)]=>
  [(isNs p&&isTb (.agg [.str s,.str g,q,r])&&beq f 82&&(n==((asNs p).length:Int))&&(i==0)&&decide (goIdR (asNs p) (asTb (.agg [.str s,.str g,q,r]))<(asNs p).length),.ret,[aI (goIdR (asNs p) (asTb (.agg [.str s,.str g,q,r])))]),
   (isNs p&&isTb (.agg [.str s,.str g,q,r])&&beq f 82&&(n==((asNs p).length:Int))&&(i==0),.exit 0,[aX])]
 |_=>[]
def jv4(br:Br)(t:List NodeT)(b:TblT)(i:Int):=rdB br prog scb2 jhI jfo Tryz.f104 2 [] [aP (pNs t),aP (rcl b),aI t.length,aI i]
def jwH(br:Br)(t:List NodeT)(b:TblT):=evB br prog scb2 jhI jfo Tryz.f104 [cP (pNs t),cP (rcl b)]
def E_IdxR:Entry:=fun ivs=>match ivs with
 |[.cv (.pv p),.cv (.pv (.clo f [.ref [.str s,.str g,q,r]]))]=>[(isNs p&&isTb (.agg [.str s,.str g,q,r])&&beq f 82,cI (if goIdR (asNs p) (asTb (.agg [.str s,.str g,q,r]))<(asNs p).length then goIdR (asNs p) (asTb (.agg [.str s,.str g,q,r]))else -1),[])]
 |_=>[]
def scb3:List (FuncId×Entry):=(104,E_IdxR)::scb2
abbrev jey:List (Nat×List Nat×List Nat):=[(1000000,[38],[]),(5,[0,1,5,6],[0,5])]
def jdx:LoopT:=fun _ ls=>match ls with
 |[(.own x,some (.lst 3 e n l true)),(.pv (.clo f [.ref [.str s,.str g,q,r]]),none),(.pv (.int .i64 i),none),(.pv (.int .i64 j),none)]=>
  [(isNs (.sl n l)&&isTb (.agg [.str s,.str g,q,r])&&beq f 82&&beq e 48&&beq x 0&&(i==(goIdR (asNs (.sl n l)) (asTb (.agg [.str s,.str g,q,r])):Int))&&(j==((goIdR (asNs (.sl n l)) (asTb (.agg [.str s,.str g,q,r])):Int)+1))&&decide (goIdR (asNs (.sl n l)) (asTb (.agg [.str s,.str g,q,r]))<(asNs (.sl n l)).length),
   .exit 0,[aM 0 3 48 n (encN (keepR (asNs (.sl n l)) (asTb (.agg [.str s,.str g,q,r]))++(asNs (.sl n l)).drop (keepR (asNs (.sl n l)) (asTb (.agg [.str s,.str g,q,r]))).length)),aI (keepR (asNs (.sl n l)) (asTb (.agg [.str s,.str g,q,r]))).length])]
 |_=>[]
def jwL(br:Br)(u:List NodeT)(b:TblT)(i j:Int):=rdB br prog scb3 jey jdx Tryz.f80 5 [] [aM 0 3 48 u.length (encN u),aP (rcl b),aI i,aI j]
def jv1(br:Br)(t:List NodeT)(b:TblT):=evB br prog scb3 jey jdx Tryz.f80 [.cv (lN t),cP (rcl b)]
def jui(br:Br)(b:TblT):=evB br prog scb3 jey jdx Tryz.f80 [cP (.sl 0 []),cP (rcl b)]
def E_DelR:Entry:=fun ivs=>match ivs with
 |[.cv (.lst 3 e n l true),.cv (.pv (.clo f [.ref [.str s,.str g,q,r]]))]=>
  [(isNs (.sl n l)&&isTb (.agg [.str s,.str g,q,r])&&beq f 82&&beq e 48&&decide (goIdR (asNs (.sl n l)) (asTb (.agg [.str s,.str g,q,r]))<(asNs (.sl n l)).length),cP (pNs (keepR (asNs (.sl n l)) (asTb (.agg [.str s,.str g,q,r])))),[]),
   (isNs (.sl n l)&&isTb (.agg [.str s,.str g,q,r])&&beq f 82&&beq e 48,.cv (.lst 3 48 n l true),[])]
 |[.cv (.pv (.sl 0 [])),.cv (.pv (.clo f [.ref [.str s,.str g,q,r]]))]=>[(isTb (.agg [.str s,.str g,q,r])&&beq f 82,cP (.sl 0 []),[])]
 |_=>[]
def jwD(br:Br)(x:NodeT)(t:List NodeT):=evB br prog [] [(1000000,[5,7],[])] LO0 Tryz.f81 [cP (.sl (t.length+1) (.str x.name::.sl x.subs.length (x.subs.map .str)::.str x.value::encN t))]
def E_CloN1:Entry:=fun ivs=>match ivs with|[.cv (.pv p)]=>[(isNs p&&decide (1<=(asNs p).length),.cv (.lst 3 48 (asNs p).length (encN (asNs p)) true),[])]|_=>[]
def E_CloN0:Entry:=fun ivs=>match ivs with|[.cv (.pv (.sl n l))]=>[(beq n 0&&nilB l,cP (.sl 0 []),[])]|_=>[]
def E_CloN:Entry:=fun ivs=>E_CloN0 ivs++E_CloN1 ivs
def scb4:List (FuncId×Entry):=(80,E_DelR)::(81,E_CloN)::scb3
def juf(br:Br)(t:List NodeT)(b:TblT):=evB br prog scb4 [(1000001,[144],[])] LO0 Tryz.f59 [cP (pT t),cP (pTb b)]
def E_rowNs:Entry:=fun ivs=>match ivs with
 |[.cv (.pv p),.cv (.pv q)]=>[(isT p&&isTb q,cP (pNs (keepR (asT p) (asTb q))),[])]
 |_=>[]
def jtD(br:Br)(b:TblT)(k v:ByteArray):=evB br prog pbb4 [(1000000,[10,20],[23,27,33]),(2000016,[8,0,17],[])] LO0 Tryz.f60 [cP (pTb b),cS k,cS v]
def E_unpM:Entry:=fun ivs=>match ivs with
 |[.cv (.pv p),.cv (.pv (.str k)),.cv (.pv (.str v))]=>
  [(isTb p&&decide (k.size<=50000)&&decide (v.size<=50000)&&tblB (asTb p)&&unpB (asTb p) k v,.tup [.agg [.lst 1 9 (jay (asTb p) k v).length ((jay (asTb p) k v).map .str) true],cI 0],[]),
   (isTb p&&decide (k.size<=50000)&&decide (v.size<=50000)&&tblB (asTb p),.tup [.agg [.pv .nils],cI 14],[])]
 |_=>[]
def nodR(l:List NodeT):Bool:=l.all fun x=>decide (x.subs.length=2)&&(decide ((x.subs.getD 1 ⟨#[]⟩).size<=24)&&decide (x.value.size<=64))
abbrev bxTb(slot:Nat)(b:TblT):AV×Option Ob:=aBx slot [.pv (.str b.name),.pv (.str b.glob),.pv (pL b.cols),.pv (pL b.idxs)]
abbrev jlV:List (Nat×List Nat×List Nat):=[(3,[2,3,5,6],[5])]
abbrev aFn(slot:Nat)(l:List NodeT):AV×Option Ob:=(.own (4096*slot),some (.lst 3 48 l.length (encN l) false))
def jhE(ls:LS):List (Bool×Ex×LS):=match ls with
 |[(.ptr y 0,some (.box [.pv p])),(.ptr x 0,some (.box [.pv (.str s),.pv (.str g),.pv q,.pv r])),(.own z,some (.lst 3 e n l false)),(.pv (.int .i64 i),none)]=>[(isTb (.agg [.str s,.str g,q,r])&&isNs p&&beq y 8192&&beq x 12288&&beq z 20480&&beq e 48&&beq n 0&&nilB l&&(i==0),.exit 0,[aFn 5 (keepR (asNs p) (asTb (.agg [.str s,.str g,q,r])))])]
 |_=>[]
def jmW:LoopT:=fun k ls=>bif beq k 3 then jhE ls else []
def r_lns(br:Br)(t:List NodeT)(b:TblT)(u:List NodeT)(i:Int):=rdB br prog [] jlV jmW Tryz.f32 3 [] [aBx 2 [.pv (pNs t)],bxTb 3 b,aFn 5 u,aI i]
def q_lns(br:Br)(t:List NodeT)(b:TblT):=evB br prog [] jlV jmW Tryz.f32 [cP (pT t),cP (pTb b)]
def zzak0(b:TblT)(k:ByteArray)(v:ByteArray):=(agg [str (TblT.name b),str (TblT.glob b),sl (length (TblT.cols b)) (map str (TblT.cols b)),sl (length (TblT.idxs b)) (map str (TblT.idxs b))])
def zzak1(b:TblT)(k:ByteArray)(v:ByteArray):=(agg [sl (1+length (cutV v)) (str k::List.append._f [] PUnit.unit (map str (cutV v)))])
theorem jow(b:TblT)(k:ByteArray)(v:ByteArray):jtD brC b k v=brC (decide ((↑b.cols.length:Int)>1)) (brC (decide (size v<=1048576)&&holds (jly { data:=#[94] })) (brC (beq (length (map str (cutV v))) (length (cutV v)*1)&&(decide (1+length (cutV v)<=140737488351232)&&decide ((1+length (cutV v))*16<=140737488355328))) (brC (isTb (zzak0 b k v)&&isRw (zzak1 b k v)&&decide (1<=length (TblT.cols (asTb (zzak0 b k v))))) (brC (!rowB (asTb (zzak0 b k v)) (asRw (zzak1 b k v))) (some ((.tup [.agg [.pv .nils],.cv (.pv (.int .i64 (Int.ofNat 14)))],[]))) (brC (isRw (zzak1 b k v)&&decide (1<=length (asRw (zzak1 b k v)))&&decide (length (packL (asRw (zzak1 b k v)))<=1048576)) (brC (!toList (bs (packL (asRw (zzak1 b k v))))==toList v) (some ((.tup [.agg [.pv .nils],.cv (.pv (.int .i64 (Int.ofNat 14)))],[]))) (some ((.tup [.agg [.lst 1 9 (1+length (cutV v)) (str k::List.append._f [] PUnit.unit (map str (cutV v))) true],.cv (.pv (.int .i64 (Int.ofNat 0)))],[])))) none)) none) none) none) (brC (isTb (zzak0 b k v)&&isRw (agg [sl 1 [str k]])&&decide (1<=length (TblT.cols (asTb (zzak0 b k v))))) (brC (!rowB (asTb (zzak0 b k v)) (asRw (agg [sl 1 [str k]]))) (some ((.tup [.agg [.pv .nils],.cv (.pv (.int .i64 (Int.ofNat 14)))],[]))) (brC (isRw (agg [sl 1 [str k]])&&decide (1<=length (asRw (agg [sl 1 [str k]])))&&decide (length (packL (asRw (agg [sl 1 [str k]])))<=1048576)) (brC (!toList (bs (packL (asRw (agg [sl 1 [str k]]))))==toList v) (some ((.tup [.agg [.pv .nils],.cv (.pv (.int .i64 (Int.ofNat 14)))],[]))) (some ((.tup [.agg [.lst 1 9 1 [str k] true],.cv (.pv (.int .i64 (Int.ofNat 0)))],[])))) none)) none):=by kernel_rfl
def zzal0(t:List NodeT)(b:TblT):=(agg [str (TblT.name b),str (TblT.glob b),pL (TblT.cols b),pL (TblT.idxs b)])
def zzal1(t:List NodeT)(b:TblT):=(↑(length (keepR (asNs (sl (length t) (encN t))) (asTb (zzal0 t b)))):Int)
theorem jp1(t:List NodeT)(b:TblT):jv1 brC t b=brC (isNs (sl t.length (encN t))&&isTb (zzal0 t b)&&beq 82 82) (brC ((if goIdR (asNs (sl t.length (encN t))) (asTb (zzal0 t b))<length (asNs (sl t.length (encN t)))then(↑(goIdR (asNs (sl t.length (encN t))) (asTb (zzal0 t b))):Int)else -1) == -1) (some ((.cv (.lst 3 48 t.length (encN t) true),[]))) (brC (isNs (sl t.length (encN t))&&isTb (zzal0 t b)&&beq 82 82&&beq 48 48&&beq 0 0&&(if goIdR (asNs (sl t.length (encN t))) (asTb (zzal0 t b))<length (asNs (sl t.length (encN t)))then(↑(goIdR (asNs (sl t.length (encN t))) (asTb (zzal0 t b))):Int)else -1)==(↑(goIdR (asNs (sl t.length (encN t))) (asTb (zzal0 t b))):Int)&&wrap .i64 ((if goIdR (asNs (sl t.length (encN t))) (asTb (zzal0 t b))<length (asNs (sl t.length (encN t)))then(↑(goIdR (asNs (sl t.length (encN t))) (asTb (zzal0 t b))):Int)else -1)+1)==(↑(goIdR (asNs (sl t.length (encN t))) (asTb (zzal0 t b))):Int)+1&&decide (goIdR (asNs (sl t.length (encN t))) (asTb (zzal0 t b))<length (asNs (sl t.length (encN t))))) (brC (decide (0<=(zzal1 t b))&&decide ((zzal1 t b)<=(↑t.length:Int))&&decide ((↑t.length:Int)<=(↑t.length:Int))&&true) (brC (decide (0<=0)&&decide (0<=(zzal1 t b))&&decide ((zzal1 t b)<=(↑t.length:Int))&&true&&true) (some ((.cv (.pv (.sl (toNat (zzal1 t b)-0) (List.take ((toNat (zzal1 t b)-0)*3) (drop (0*3) (List.take (toNat (zzal1 t b)*3) (encN (keepR (asNs (sl t.length (encN t))) (asTb (zzal0 t b))++drop (length (keepR (asNs (sl t.length (encN t))) (asTb (zzal0 t b)))) (asNs (sl t.length (encN t)))))++List.flatten (List.replicate (length t-toNat (zzal1 t b)) [str { data:=#[] },PV.nils,str { data:=#[] }])))))),[]))) none) none) none)) none:=by kernel_rfl
def zzam0(t:List NodeT)(b:TblT)(u:List NodeT)(i:Int):=(headD (tail (drop (toNat i*3) (encN t))) nilp)
theorem jmT(t:List NodeT)(b:TblT)(u:List NodeT)(i:Int):r_lns brC t b u i=brC (decide (i<(↑t.length:Int))) (brC (decide (0<=i)&&decide (i<(↑t.length:Int))) (brC (Nat.ble 3 (length (drop (toNat i*3) (encN t)))&&(isStr (headD (drop (toNat i*3) (encN t)) nilp)&&(isSl (zzam0 t b u i)&&(isStr (headD (tail (tail (drop (toNat i*3) (encN t)))) nilp)&&true&&true)&&true)&&true)&&true) (brC (toList (asStr (headD (drop (toNat i*3) (encN t)) nilp))==toList b.glob) (brC ((↑(slN (zzam0 t b u i)):Int)==2) (brC (decide (0<=0)&&decide (0<(↑(slN (zzam0 t b u i)):Int))) (brC (Nat.blt 0 (length (drop 0 (slL (zzam0 t b u i))))&&isStr (headD (drop 0 (slL (zzam0 t b u i))) nilp)&&true) (brC (toList (asStr (headD (drop 0 (slL (zzam0 t b u i))) nilp))==[Subtype.val ⟨ByteArray.get! { data:=#[114] } 0,And.left (Iff.mp List.forall_mem_cons (List.attach._proof_1 [ByteArray.get! { data:=#[114] } 0]))⟩]) (brC (beq (length [str (asStr (headD (drop (toNat i*3) (encN t)) nilp)),sl (slN (zzam0 t b u i)) (slL (zzam0 t b u i)),str (asStr (headD (tail (tail (drop (toNat i*3) (encN t)))) nilp))]) (1*3)&&(decide (length u+1<=140737488351232)&&decide ((length u+1)*56<=140737488355328))) (some (.inl [(.ptr 8192 0,some (.box [.pv (.sl t.length (encN t))])),(.ptr 12288 0,some (.box [.pv (.str b.name),.pv (.str b.glob),.pv (.sl b.cols.length (map str b.cols)),.pv (.sl b.idxs.length (map str b.idxs))])),(.own 20480,some (.lst 3 48 (length u+1) (encN u++[str (asStr (headD (drop (toNat i*3) (encN t)) nilp)),sl (slN (zzam0 t b u i)) (slL (zzam0 t b u i)),str (asStr (headD (tail (tail (drop (toNat i*3) (encN t)))) nilp))]) false)),(.pv (.int .i64 (wrap .i64 (i+1))),none)])) none) (some (.inl [(.ptr 8192 0,some (.box [.pv (.sl t.length (encN t))])),(.ptr 12288 0,some (.box [.pv (.str b.name),.pv (.str b.glob),.pv (.sl b.cols.length (map str b.cols)),.pv (.sl b.idxs.length (map str b.idxs))])),(.own 20480,some (.lst 3 48 u.length (encN u) false)),(.pv (.int .i64 (wrap .i64 (i+1))),none)]))) none) none) (some (.inl [(.ptr 8192 0,some (.box [.pv (.sl t.length (encN t))])),(.ptr 12288 0,some (.box [.pv (.str b.name),.pv (.str b.glob),.pv (.sl b.cols.length (map str b.cols)),.pv (.sl b.idxs.length (map str b.idxs))])),(.own 20480,some (.lst 3 48 u.length (encN u) false)),(.pv (.int .i64 (wrap .i64 (i+1))),none)]))) (some (.inl [(.ptr 8192 0,some (.box [.pv (.sl t.length (encN t))])),(.ptr 12288 0,some (.box [.pv (.str b.name),.pv (.str b.glob),.pv (.sl b.cols.length (map str b.cols)),.pv (.sl b.idxs.length (map str b.idxs))])),(.own 20480,some (.lst 3 48 u.length (encN u) false)),(.pv (.int .i64 (wrap .i64 (i+1))),none)]))) none) none) (some (.inr (.exit 0,[(.own 20480,some (.lst 3 48 u.length (encN u) false))]))):=by kernel_rfl
theorem joy(t:List NodeT)(b:TblT):jwH brC t b=brC (isNs (pNs t)&&isTb (agg [str b.name,str b.glob,pL b.cols,pL b.idxs])&&beq 82 82&&(↑t.length:Int)==(↑(length (asNs (pNs t))):Int)&&0==0&&decide (goIdR (asNs (pNs t)) (asTb (agg [str b.name,str b.glob,pL b.cols,pL b.idxs]))<length (asNs (pNs t)))) (some ((.cv (.pv (.int .i64 (↑(goIdR (asNs (pNs t)) (asTb (agg [str b.name,str b.glob,pL b.cols,pL b.idxs]))):Int))),[]))) (brC (isNs (pNs t)&&isTb (agg [str b.name,str b.glob,pL b.cols,pL b.idxs])&&beq 82 82&&(↑t.length:Int)==(↑(length (asNs (pNs t))):Int)&&0==0) (some ((.cv (.pv (.int .i64 (Int.negSucc 0))),[]))) none):=by kernel_rfl
theorem jsZ(b:TblT)(x:NodeT):q_isR brC b x=brC (toList x.name==toList b.glob) (brC ((↑x.subs.length:Int)==2) (brC (decide (0<=0)&&decide (0<(↑x.subs.length:Int))) (brC (Nat.blt 0 (length (drop 0 (map str x.subs)))&&isStr (headD (drop 0 (map str x.subs)) nilp)&&true) (some ((.cv (.pv (.bool (toList (asStr (headD (drop 0 (map str x.subs)) nilp))==[Subtype.val ⟨ByteArray.get! { data:=#[114] } 0,And.left (Iff.mp List.forall_mem_cons (List.attach._proof_1 [ByteArray.get! { data:=#[114] } 0]))⟩]))),[]))) none) none) (some ((.cv (.pv (.bool false)),[])))) (some ((.cv (.pv (.bool false)),[]))):=by kernel_rfl
def zzan0(x:NodeT)(b:TblT):=(agg [str (asStr (headD [str (TblT.name b),str (TblT.glob b),pL (TblT.cols b),pL (TblT.idxs b)] nilp)),str (asStr (headD [str (TblT.glob b),pL (TblT.cols b),pL (TblT.idxs b)] nilp)),sl (slN (headD [pL (TblT.cols b),pL (TblT.idxs b)] nilp)) (slL (headD [pL (TblT.cols b),pL (TblT.idxs b)] nilp)),sl (slN (headD [pL (TblT.idxs b)] nilp)) (slL (headD [pL (TblT.idxs b)] nilp))])
theorem jtk(x:NodeT)(b:TblT):q_rn1 brC x b=brC (isTb (zzan0 x b)&&isN (agg [str x.name,sl x.subs.length (map str x.subs),str x.value])) (some ((.cv (.pv (.bool !rwN (asTb (zzan0 x b)) (asN (agg [str x.name,sl x.subs.length (map str x.subs),str x.value])))),[]))) none:=by kernel_rfl
theorem jjo(u:List NodeT)(b:TblT)(i:Int)(j:Int):jwL brC u b i j=brC (decide (j<(↑u.length:Int))) (brC (decide (0<=j)&&decide (j<(↑u.length:Int))) (brC (Nat.ble (toNat j*3) (length (encN u))&&(Nat.ble 3 (length (drop (toNat j*3) (encN u)))&&(isStr (headD (drop (toNat j*3) (encN u)) nilp)&&(isSl (headD (tail (drop (toNat j*3) (encN u))) nilp)&&(isStr (headD (tail (tail (drop (toNat j*3) (encN u)))) nilp)&&true&&true)&&true)&&true)&&true)) (brC (isN (agg [str (asStr (headD (drop (toNat j*3) (encN u)) nilp)),sl (slN (headD (tail (drop (toNat j*3) (encN u))) nilp)) (slL (headD (tail (drop (toNat j*3) (encN u))) nilp)),str (asStr (headD (tail (tail (drop (toNat j*3) (encN u)))) nilp))])&&isTb (agg [str b.name,str b.glob,pL b.cols,pL b.idxs])) (brC (!noR (asTb (agg [str b.name,str b.glob,pL b.cols,pL b.idxs])) (asN (agg [str (asStr (headD (drop (toNat j*3) (encN u)) nilp)),sl (slN (headD (tail (drop (toNat j*3) (encN u))) nilp)) (slL (headD (tail (drop (toNat j*3) (encN u))) nilp)),str (asStr (headD (tail (tail (drop (toNat j*3) (encN u)))) nilp))]))) (brC (decide (0<=i)&&decide (i<(↑u.length:Int))) (brC (beq (length [str (asStr (headD (drop (toNat j*3) (encN u)) nilp)),sl (slN (headD (tail (drop (toNat j*3) (encN u))) nilp)) (slL (headD (tail (drop (toNat j*3) (encN u))) nilp)),str (asStr (headD (tail (tail (drop (toNat j*3) (encN u)))) nilp))]) 3&&Nat.ble (toNat i*3+3) (length (encN u))) (some (.inl [(.own 0,some (.lst 3 48 u.length (List.take (toNat i*3) (encN u)++[str (asStr (headD (drop (toNat j*3) (encN u)) nilp)),sl (slN (headD (tail (drop (toNat j*3) (encN u))) nilp)) (slL (headD (tail (drop (toNat j*3) (encN u))) nilp)),str (asStr (headD (tail (tail (drop (toNat j*3) (encN u)))) nilp))]++drop (toNat i*3+3) (encN u)) true)),(.pv (PV.clo 82 [PV.ref [str b.name,str b.glob,sl b.cols.length (map str b.cols),sl b.idxs.length (map str b.idxs)]]),none),(.pv (.int .i64 (wrap .i64 (i+1))),none),(.pv (.int .i64 (wrap .i64 (j+1))),none)])) none) none) (some (.inl [(.own 0,some (.lst 3 48 u.length (encN u) true)),(.pv (PV.clo 82 [PV.ref [str b.name,str b.glob,sl b.cols.length (map str b.cols),sl b.idxs.length (map str b.idxs)]]),none),(.pv (.int .i64 i),none),(.pv (.int .i64 (wrap .i64 (j+1))),none)]))) none) none) none) (some (.inr (.exit 0,[(.own 0,some (.lst 3 48 u.length (encN u) true)),(.pv (.int .i64 i),none)]))):=by kernel_rfl
theorem jok(b:TblT):jui brC b=brC (isNs (sl 0 [])&&isTb (agg [str b.name,str b.glob,pL b.cols,pL b.idxs])&&beq 82 82) (brC ((if goIdR (asNs (sl 0 [])) (asTb (agg [str b.name,str b.glob,pL b.cols,pL b.idxs]))<length (asNs (sl 0 []))then(↑(goIdR (asNs (sl 0 [])) (asTb (agg [str b.name,str b.glob,pL b.cols,pL b.idxs]))):Int)else -1) == -1) (some ((.cv (.pv (.sl 0 [])),[]))) none) none:=by kernel_rfl
theorem jpT(x:NodeT)(t:List NodeT):jwD brC x t=brC (beq (length (str x.name::sl x.subs.length (map str x.subs)::str x.value::encN t)) ((length t+1)*3)&&(decide (0+(length t+1)<=140737488351232)&&decide ((0+(length t+1))*56<=140737488355328))) (some ((.cv (.lst 3 48 (0+(length t+1)) (str x.name::sl x.subs.length (map str x.subs)::str x.value::encN t) true),[]))) none:=by kernel_rfl
theorem jsn(t:List NodeT)(b:TblT):q_lns brC t b=brC (isTb (agg [str b.name,str b.glob,pL b.cols,pL b.idxs])&&isNs (pNs t)&&beq 8192 8192&&beq 12288 12288&&beq 20480 20480&&beq 48 48&&beq 0 0&&nilB []&&0==0) (some ((.cv (.lst 3 48 (length (keepR (asNs (pNs t)) (asTb (agg [str b.name,str b.glob,pL b.cols,pL b.idxs])))) (encN (keepR (asNs (pNs t)) (asTb (agg [str b.name,str b.glob,pL b.cols,pL b.idxs])))) false),[]))) none:=by kernel_rfl
theorem ji4(t:List NodeT)(b:TblT)(i:Int):jv4 brC t b i=brC (decide (i<(↑t.length:Int))) (brC (decide (0<=i)&&decide (i<(↑t.length:Int))) (brC (Nat.ble 3 (length (drop (toNat i*3) (encN t)))&&(isStr (headD (drop (toNat i*3) (encN t)) nilp)&&(isSl (headD (tail (drop (toNat i*3) (encN t))) nilp)&&(isStr (headD (tail (tail (drop (toNat i*3) (encN t)))) nilp)&&true&&true)&&true)&&true)&&true) (brC (isN (agg [str (asStr (headD (drop (toNat i*3) (encN t)) nilp)),sl (slN (headD (tail (drop (toNat i*3) (encN t))) nilp)) (slL (headD (tail (drop (toNat i*3) (encN t))) nilp)),str (asStr (headD (tail (tail (drop (toNat i*3) (encN t)))) nilp))])&&isTb (agg [str b.name,str b.glob,pL b.cols,pL b.idxs])) (brC (noR (asTb (agg [str b.name,str b.glob,pL b.cols,pL b.idxs])) (asN (agg [str (asStr (headD (drop (toNat i*3) (encN t)) nilp)),sl (slN (headD (tail (drop (toNat i*3) (encN t))) nilp)) (slL (headD (tail (drop (toNat i*3) (encN t))) nilp)),str (asStr (headD (tail (tail (drop (toNat i*3) (encN t)))) nilp))]))) (some (.inr (.ret,[(.pv (.int .i64 i),none)]))) (some (.inl [(.pv (.sl t.length (encN t)),none),(.pv (PV.clo 82 [PV.ref [str b.name,str b.glob,sl b.cols.length (map str b.cols),sl b.idxs.length (map str b.idxs)]]),none),(.pv (.int .i64 (↑t.length:Int)),none),(.pv (.int .i64 (wrap .i64 (i+1))),none)]))) none) none) none) (some (.inr (.exit 0,[(.bad,none)]))):=by kernel_rfl
def zzaq0(t:List NodeT)(b:TblT):=(sl (length (asNs (sl (length t) (encN t)))) (encN (asNs (sl (length t) (encN t)))))
theorem jnC(t:List NodeT)(b:TblT):juf brC t b=brC (beq t.length 0&&nilB (encN t)) (brC (isTb (agg [str b.name,str b.glob,pL b.cols,pL b.idxs])&&beq 82 82) (some ((.cv (.pv (.sl 0 [])),[]))) none) (brC (isNs (sl t.length (encN t))&&decide (1<=length (asNs (sl t.length (encN t))))) (brC (isNs (zzaq0 t b)&&isTb (agg [str b.name,str b.glob,pL b.cols,pL b.idxs])&&beq 82 82&&beq 48 48&&decide (goIdR (asNs (zzaq0 t b)) (asTb (agg [str b.name,str b.glob,pL b.cols,pL b.idxs]))<length (asNs (zzaq0 t b)))) (some ((.cv (.pv (.sl (length (keepR (asNs (zzaq0 t b)) (asTb (agg [str b.name,str b.glob,pL b.cols,pL b.idxs])))) (encN (keepR (asNs (zzaq0 t b)) (asTb (agg [str b.name,str b.glob,pL b.cols,pL b.idxs])))))),[]))) (brC (isNs (zzaq0 t b)&&isTb (agg [str b.name,str b.glob,pL b.cols,pL b.idxs])&&beq 82 82&&beq 48 48) (some ((.cv (.lst 3 48 (length (asNs (sl t.length (encN t)))) (encN (asNs (sl t.length (encN t)))) true),[]))) none)) none):=by kernel_rfl
section
open Go.RowKit Go.Lib
theorem jm0(a:Option Addr)(n c:Nat)(w:World):(binOp .eql 31 (.slice a n c) (.slice none 0 0)).run prog w=.ok (.bool a.isNone) w:=by
 simp only[binOp];simp[run_equal_slice_nil (P:=prog) w 31 48 a n c Tryz.underlying31]
set_option maxHeartbeats 2000000 in
set_option maxRecDepth 100000 in
theorem jtf(c:Nat)(w:World):Calls Tryz.prog 81 #[.slice none 0 c] w fun e w'=>∃ a' c',e=.returned (.slice a' 0 c')/\Below w.heap.size w w':=by
 go_enter Tryz.func81, Tryz.ntmps81
 go_wp2
 rw[jm0]
 go_wp2
 go_ret
 exact⟨_,_,rfl,Below.refl _ _⟩
set_option maxHeartbeats 2000000 in
set_option maxRecDepth 100000 in
theorem jqF(a:Addr)(c:Nat)(w:World):Calls Tryz.prog 81 #[.slice (some a) 0 c] w fun e w'=>∃ a' c',e=.returned (.slice a' 0 c')/\Below w.heap.size w w':=by
 go_enter Tryz.func81, Tryz.ntmps81
 go_wp2
 rw[jm0]
 go_wp2
 go_ret
 exact⟨_,_,rfl,Below.alloc (B:=w.heap.size) (a:=w) (w:=w) (Below.refl _ _) (Nat.le_refl _) _⟩
end
theorem jkN{a b c:ByteArray}(h:strLt a b=true)(k:strLt b c=true):strLt a c=true:=by
 unfold strLt at h k ⊢;rw[jcz]at h k ⊢;exact jeK h k
theorem jlq{a b c:ByteArray}{x y z:List ByteArray}(h:locLt a x b y=true)(k:locLt b y c z=true):locLt a x c z=true:=by
 unfold locLt at h k ⊢;rw[Bool.or_eq_true,nqE]at h k ⊢;rcases h with h|⟨h,h'⟩
 .rcases k with k|⟨k,k'⟩
  .exact .inl (jkN h k)
  .obtain rfl:=jbi.1 k;exact .inl h
 .obtain rfl:=jbi.1 h;rcases k with k|⟨k,k'⟩
  .exact .inl k
  .exact .inr ⟨k,jeY h' k'⟩
theorem ji5:∀ (t:List NodeT) (p:Option NodeT),jch p t=true->(∀ x∈t,nodeB x=true)/\t.Pairwise (fun x y=>jeW x y=true)/\∀ y,p=some y->∀ x∈t,jeW y x=true
 |[],_,_=>⟨fun x h=>(List.not_mem_nil h).elim,.nil,fun y _ x h=>(List.not_mem_nil h).elim⟩
 |x::t,p,h=>by
  unfold jch at h;rw[nqE,nqE]at h;obtain⟨⟨h1,h2⟩,h3⟩:=h;obtain⟨i1,i2,i3⟩:=ji5 t (some x) h3;refine⟨fun y hy=>?_,List.pairwise_cons.2 ⟨i3 x rfl,i2⟩,fun y hy z hz=>?_⟩
  .rcases List.mem_cons.1 hy with rfl|hy
   .exact h1
   .exact i1 y hy
  .subst hy;rcases List.mem_cons.1 hz with rfl|hz
   .exact h2
   .exact jlq h2 (i3 x rfl z hz)
theorem jdJ{t:List NodeT}(h:treeB t=true):t.length<=120/\(∀ x∈t,nodeB x=true)/\t.Pairwise (fun x y=>jeW x y=true):=by
 unfold treeB at h;rw[nqE]at h;obtain⟨h1,h2,_⟩:=ji5 t none h.2;exact⟨nqI h.1,h1,h2⟩
def ownB(s:ByteArray)(x:NodeT):Bool:=sEq x.name s&&decide (0<x.subs.length)
theorem tbI{b:TblT}(h:shTb b):isTb (agg [str b.name,str b.glob,pL b.cols,pL b.idxs])=true:=jaM h
theorem tbA(b:TblT):asTb (agg [str b.name,str b.glob,pL b.cols,pL b.idxs])=b:=jak b
theorem ja0{s g:ByteArray}{q r:PV}(h:isTb (.agg [.str s,.str g,q,r])=true):∃ b,s=b.name/\g=b.glob/\q=pL b.cols/\r=pL b.idxs/\shTb b:=by
 obtain⟨b,e,hb⟩:=jar h;unfold pTb at e;injection e with e;injection e with e1 e;injection e1 with e1;injection e with e2 e;injection e2 with e2;injection e with e3 e;injection e with e4 e;exact⟨b,e1,e2,e3,e4,hb⟩
theorem brTc{R:Type}(x y:Option R):brC true x y=x:=rfl
theorem brFc{R:Type}(x y:Option R):brC false x y=y:=rfl
theorem jwe:jab prog 83 E_isR:=jac mix (tab:=[]) trivial (lp:=[]) (LO:=LO0) ⟨Tryz.func83,by kernel_rfl,by kernel_rfl⟩ (by kernel_rfl) fun ivs res bxs h=>by
 unfold E_isR at h;split at h
 .rename_i p q;obtain⟨hc,he⟩:=pick1 h;cases he;obtain⟨k0,k1⟩:=andE hc;obtain⟨b,rfl,h_b⟩:=jar k0;obtain⟨x,rfl,h_x⟩:=jae k1;have e_b:asTb (pTb b)=b:=jak b;have e_x:asN (pN x)=x:=jbn x;rw[e_b,e_x];refine⟨jam (by kernel_rfl),?_⟩;have tree:=jsZ b x;unfold rwN;cases h1:(x.name.toList==b.glob.toList)with
  |false=>rw[h1]at tree;exact tree.trans rfl
  |true=>
   rw[h1]at tree;cases hs:x.subs with
   |nil=>rw[hs]at tree;exact tree.trans rfl
   |cons a t=>
    rw[hs]at tree;by_cases h2:(a::t).length=2
    .have h3:((((a::t).length:Nat):Int)==2)=true:=by rw[h2];rfl
     have h4:(0:Int)<(((a::t).length:Nat):Int):=by rw[h2];decide
     rw[h3,dT h4]at tree;rw[dT h2];exact tree.trans rfl
    .have h3:((((a::t).length:Nat):Int)==2)=false:=beq_eq_false_iff_ne.2 (by omega);rw[h3]at tree;rw[dF h2];exact tree.trans rfl
 .cases h
theorem jrM:jad prog scb1:=⟨jwe,trivial⟩
theorem jwI:jab prog 82 E_rn1:=jac mix jrM (lp:=[]) (LO:=LO0) ⟨Tryz.func82,by kernel_rfl,by kernel_rfl⟩ (by kernel_rfl) fun ivs res bxs h=>by
 unfold E_rn1 at h;split at h
 .rename_i p s g q r;obtain⟨hc,he⟩:=pick1 h;cases he;obtain⟨k0,k1⟩:=andE hc;obtain⟨x,rfl,h_x⟩:=jae k0;obtain⟨b,rfl,rfl,rfl,rfl,h_b⟩:=ja0 k1;have e_x:asN (pN x)=x:=jbn x;rw[tbA,e_x];refine⟨jam (by kernel_rfl),?_⟩;have tree:=jtk x b;revert tree;try delta zzan0;intro tree
  have i1:=jaM h_b;have a1:=jak b;have i2:=jdn h_x;simp only[List.headD_cons,List.tail_cons,List.drop_succ_cons,List.drop_zero,isStr,asStr,isSl,slN,slL,isTb,asTb,i1,a1,isN,i2,jbn,Bool.and_true,Bool.true_and]at tree;exact tree.trans rfl
 .cases h
theorem jrd:jad prog scb2:=⟨jwI,jrM⟩
theorem jrl(b:TblT):goIdR [] b=0:=rfl
theorem jhW{x:NodeT}{t:List NodeT}{b:TblT}(h:noR b x=true):goIdR (x::t) b=0:=by
 unfold goIdR;rw[List.takeWhile_cons,h];rfl
theorem jfv{x:NodeT}{t:List NodeT}{b:TblT}(h:noR b x=false):goIdR (x::t) b=goIdR t b+1:=by
 unfold goIdR;rw[List.takeWhile_cons,h];rfl
theorem jqi(t:List NodeT)(h:shT t)(b:TblT)(hx:shTb b):∀ (m i:Nat),m+i=t.length->LoopsTo (rdB brC prog scb2 jhI jfo Tryz.f104 2 []) [aP (pNs t),aP (rcl b),aI t.length,aI i]
  (if goIdR (t.drop i) b+i<t.length then(.ret,[aI ((goIdR (t.drop i) b+i:Nat):Int)])else(.exit 0,[aX])):=by
 have hl:=h.1;intro m;induction m with
 |zero=>
  intro i hm;obtain rfl:i=t.length:=by omega
  rw[List.drop_length,jrl,if_neg (by omega)];refine .done _ _ ((ji4 t b t.length).trans ?_);rw[dF (by omega)];rfl
 |succ m ih=>
  intro i hm;have hi:i<t.length:=by omega
  have hs:=jcY h hi;have ih':=ih (i+1) (by omega);have tree:=ji4 t b i;have e2:=jaM hx;have e3:=jak b;simp(disch:=omega) only[dT,nqF,jaG t i hi,nqH,List.headD_cons,List.tail_cons,isStr,asStr,isSl,slN,slL,ble3,wrap1,Bool.and_true,jdn hs,jbn,e2,e3]at tree;rw[nqK hi];cases hin:noR b t[i]with
  |true=>
   rw[hin]at tree;rw[jhW hin,Nat.zero_add,if_pos hi];exact .done _ _ tree
  |false=>
   rw[hin]at tree;rw[jfv hin];have e:goIdR (t.drop (i+1)) b+(i+1)=goIdR (t.drop (i+1)) b+1+i:=by omega
   rw[e]at ih';exact .step _ _ _ tree ih'
theorem jvN:jab prog 104 E_IdxR:=jac mix jrd (lp:=jhI) (LO:=jfo) ⟨Tryz.func104,by kernel_rfl,by kernel_rfl⟩ (by kernel_rfl) fun ivs res bxs h=>by
 unfold E_IdxR at h;split at h
 .rename_i p f s g q r;obtain⟨hc,he⟩:=pick1 h;cases he;simp only[nqE]at hc;obtain⟨⟨h1,h2⟩,h3⟩:=hc;obtain⟨t,rfl,ht⟩:=jae h1;obtain⟨b,rfl,rfl,rfl,rfl,hx⟩:=ja0 h2;obtain rfl:=nqB h3;refine⟨jaw 2 (by kernel_rfl) (by kernel_rfl) (by kernel_rfl) ?_,(joy t b).trans ?_⟩
  .intro ls e ls' hl;unfold jfo at hl;split at hl
   .rename_i p f s g q r n i;cases hg:(isNs p&&isTb (.agg [.str s,.str g,q,r])&&beq f 82&&(n==((asNs p).length:Int))&&(i==0))with
    |false=>rw[hg]at hl;simp only[pickA,Bool.false_and,cond_false]at hl;cases hl
    |true=>
     rw[hg,Bool.true_and]at hl;simp only[nqE,beq_iff_eq]at hg;obtain⟨⟨⟨⟨g1,g2⟩,g3⟩,g4⟩,g5⟩:=hg;obtain⟨u,rfl,hu⟩:=jae g1;obtain⟨b,rfl,rfl,rfl,rfl,hy⟩:=ja0 g2;simp only[jao,tbA]at hl g4;rw[nqB g3,g4,g5];have:=jqi u hu b hy u.length 0 (by omega);rw[List.drop_zero,Nat.add_zero]at this;by_cases hlt:goIdR u b<u.length
     .rw [dT hlt]at hl;rw[if_pos hlt]at this;cases hl;exact this
     .rw [dF hlt]at hl;rw[if_neg hlt]at this;cases hl;exact this
   .cases hl
  .simp only[jbg ht,tbI hx,tbA,jao,beq_self_eq_true,Bool.and_true,Bool.true_and,Nat.beq_refl];by_cases hlt:goIdR t b<t.length
   .rw [dT hlt,if_pos hlt];rfl
   .rw [dF hlt,if_neg hlt];rfl
 .cases h
theorem jqz:jad prog scb3:=⟨jvN,jrd⟩
theorem jec(t:List NodeT)(b:TblT):(keepR t b).length<=t.length:=List.length_filter_le _ _
theorem jdI(t u:List NodeT)(b:TblT):keepR (t++u) b=keepR t b++keepR u b:=List.filter_append t u
theorem jc6(x:NodeT)(b:TblT):keepR [x] b=if(!noR b x)=true then [x]else []:=by
 unfold keepR;rw[List.filter_cons];rfl
theorem jmw(b:TblT):∀ t:List NodeT,goIdR t b<t.length->keepR (t.take (goIdR t b+1)) b=t.take (goIdR t b)
 |[],h=>by simp at h
 |x::t,h=>by
  cases hin:noR b x with
  |true=>
   rw[jhW hin,Nat.zero_add,List.take_succ_cons,List.take_zero,List.take_zero,jc6,hin];rfl
  |false=>
   rw[jfv hin]at h ⊢;have ih:=jmw b t (by simpa using h);rw[List.take_succ_cons,List.take_succ_cons,<- ih];show keepR ([x]++_) b=_;rw[jdI,jc6,hin];rfl
theorem jmB(b:TblT):∀ t:List NodeT,¬goIdR t b<t.length->keepR t b=t
 |[],h=>rfl
 |x::t,h=>by
  cases hin:noR b x with
  |true=>rw[jhW hin]at h;simp at h
  |false=>
   rw[jfv hin]at h;have ih:=jmB b t (by simpa using h);show keepR ([x]++t) b=_;rw[jdI,jc6,hin,ih];rfl
def delR(t:List NodeT)(b:TblT)(j:Nat):List NodeT:=keepR (t.take j) b++t.drop (keepR (t.take j) b).length
theorem jcv(t:List NodeT)(b:TblT)(j:Nat):(keepR (t.take j) b).length<=j/\(keepR (t.take j) b).length<=t.length:=by
 have:=jec (t.take j) b;rw[List.length_take]at this;omega
theorem jeb(t:List NodeT)(b:TblT)(j:Nat):(delR t b j).length=t.length:=by
 unfold delR;have:=jcv t b j;rw[nqG,List.length_drop];omega
theorem jrm(t:List NodeT)(b:TblT)(j:Nat):(delR t b j).drop j=t.drop j:=by
 unfold delR;have:=jcv t b j;rw[List.drop_append,List.drop_eq_nil_of_le this.1,List.nil_append,List.drop_drop];congr 1
 omega
theorem jrb(t:List NodeT)(h:shT t)(b:TblT)(hx:shTb b):∀ (m j:Nat),m+j=t.length->LoopsTo (rdB brC prog scb3 jey jdx Tryz.f80 5 [])
  [aM 0 3 48 (delR t b j).length (encN (delR t b j)),aP (rcl b),aI (keepR (t.take j) b).length,aI j] (.exit 0,[aM 0 3 48 t.length (encN (keepR t b++t.drop (keepR t b).length)),aI (keepR t b).length]):=by
 have hl:=h.1;intro m;induction m with
 |zero=>
  intro j hm;obtain rfl:j=t.length:=by omega
  refine .done _ _ ((jjo (delR t b t.length) b (keepR (t.take t.length) b).length t.length).trans ?_);rw[dF (by rw[jeb];omega),jeb];unfold delR;rw[List.take_length];rfl
 |succ m ih=>
  intro j hm;have hj:j<t.length:=by omega
  have hs:=jcY h hj;have hkl:=jcv t b j;have hul:=jeb t b j;have hud:=jrm t b j;have ek:keepR (t.take (j+1)) b=keepR (t.take j) b++(if(!noR b t[j])=true then [t[j]]else []):=by rw[List.take_succ_eq_append_getElem hj,jdI,jc6]
  have hdrop:(encN (delR t b j)).drop (j*3)=.str t[j].name::.sl t[j].subs.length (t[j].subs.map str)::.str t[j].value::encN (t.drop (j+1)):=by
   rw[jkb,hud,nqK hj];rfl
  have hel:=jcq (delR t b j);have b1:Nat.ble (j*3) (encN (delR t b j)).length=true:=Nat.ble_eq_true_of_le (by omega);have b2:Nat.ble ((keepR (t.take j) b).length*3+3) (encN (delR t b j)).length=true:=Nat.ble_eq_true_of_le (by omega);have b3:∀ (x y z:PV),beq (length [x,y,z]) 3=true:=fun _ _ _=>rfl
  have e2:=jaM hx;have e3:=jak b;have tree:=jjo (delR t b j) b (keepR (t.take j) b).length j;simp(disch:=omega) only[dT,nqF,hdrop,b1,b2,b3,nqH,List.headD_cons,List.tail_cons,isStr,asStr,isSl,slN,slL,ble3,wrap1,Bool.and_true,Bool.true_and,jdn hs,jbn,e2,e3]at tree;cases hin:noR b t[j]with
  |true=>
   rw[hin]at tree ek;simp only[Bool.not_true,if_neg Bool.false_ne_true,List.append_nil]at ek;have ih':=ih (j+1) (by omega);have eu:delR t b (j+1)=delR t b j:=by unfold delR;rw[ek]
   rw[eu,ek]at ih';exact .step _ _ _ tree ih'
  |false=>
   rw[hin]at tree ek;simp only[Bool.not_false,if_pos]at ek;have ih':=ih (j+1) (by omega);have eu:encN (delR t b (j+1))=List.take ((keepR (t.take j) b).length*3) (encN (delR t b j))++[str t[j].name,sl t[j].subs.length (t[j].subs.map str),str t[j].value]++drop ((keepR (t.take j) b).length*3+3) (encN (delR t b j)):=by
    rw[jjr,show(keepR (t.take j) b).length*3+3=((keepR (t.take j) b).length+1)*3 by omega,jkb];unfold delR;rw[ek];generalize keepR (t.take j) b=K;have d1:(K++t.drop K.length).drop (K.length+1)=t.drop (K.length+1):=by
     rw[List.drop_append,List.drop_eq_nil_of_le (Nat.le_succ _),List.nil_append,List.drop_drop];congr 1
     omega
    rw[d1,List.take_left,jd8,jd8,nqG,List.length_singleton];rfl
   have hl2:(delR t b (j+1)).length=(delR t b j).length:=by rw[jeb,jeb]
   have hk2:((keepR (t.take (j+1)) b).length:Int)=(((keepR (t.take j) b).length+1:Nat):Int):=by rw[ek,nqG,List.length_singleton]
   rw[eu,hl2,hk2]at ih';exact .step _ _ _ tree ih'
theorem jvl:jab prog 80 E_DelR:=jac mix jqz (lp:=jey) (LO:=jdx) ⟨Tryz.func80,by kernel_rfl,by kernel_rfl⟩ (by kernel_rfl) fun ivs res bxs h=>by
 have loops:∀ ivs:List IV,(∀ b∈jaq (ja3 Tryz.f80),jaW prog (tabL scb3) (OL jey) Tryz.f80.ntmps (pbOf []) jdx b):=fun _=>by
  refine jaw 5 (by kernel_rfl) (by kernel_rfl) (by kernel_rfl) ?_;intro ls e ls' hl;unfold jdx at hl;split at hl
  .rename_i x e n l f s g q r i j;obtain⟨hc,he⟩:=pick1 hl;cases he;simp only[nqE,beq_iff_eq,decide_eq_true_eq]at hc;obtain⟨⟨⟨⟨⟨⟨⟨g1,g2⟩,g3⟩,g4⟩,g5⟩,g6⟩,g7⟩,g8⟩:=hc;obtain⟨t,ht',ht⟩:=jae g1;obtain⟨b,rfl,rfl,rfl,rfl,hy⟩:=ja0 g2;rw[ht']at g6 g7 g8 ⊢;injection ht' with hn hll;subst hn;subst hll;simp only[jao,tbA]at g6 g7 g8 ⊢;rw[nqB g3,nqB g4,nqB g5,g6,g7];have hk:=jmw b t g8;have hkl:(keepR (t.take (goIdR t b+1)) b).length=goIdR t b:=by rw[hk,List.length_take];omega
   have:=jrb t ht b hy (t.length-(goIdR t b+1)) (goIdR t b+1) (by omega);have eu:delR t b (goIdR t b+1)=t:=by
    unfold delR;rw[hkl,hk,List.take_append_drop]
   rw[eu,hkl]at this;exact this
  .cases hl
 unfold E_DelR at h;split at h
 .rename_i e n l f s g q r;cases hg:(isNs (.sl n l)&&isTb (.agg [.str s,.str g,q,r])&&beq f 82&&beq e 48)with
  |false=>rw[hg]at h;simp only[pickA,Bool.false_and,cond_false]at h;cases h
  |true=>
   rw[hg,Bool.true_and]at h;simp only[nqE]at hg;obtain⟨⟨⟨g1,g2⟩,g3⟩,g4⟩:=hg;obtain⟨t,ht',ht⟩:=jae g1;obtain⟨b,rfl,rfl,rfl,rfl,hy⟩:=ja0 g2;rw[ht']at h;injection ht' with hn hl;subst hn;subst hl;simp only[jao,tbA]at h;rw[nqB g3,nqB g4];refine⟨loops [],(jp1 t b).trans ?_⟩
   try delta zzal1
   try delta zzal0
   have hlen:=ht.1;have hkl:=jec t b;have e1:=jbg ht;have e2:=tbI hy;have e3:=tbA b;simp only[isNs,e1,e2,e3,jao];by_cases hlt:goIdR t b<t.length
   .rw [dT hlt]at h;cases h;rw[if_pos hlt];have n1:((goIdR t b:Int) == -1)=false:=by simp
    have n2:(wrap .i64 ((goIdR t b:Int)+1)==(goIdR t b:Int)+1)=true:=by rw[wrap1 (by omega)];simp
    have er:sl (toNat ((keepR t b).length:Int)-0) (List.take ((toNat ((keepR t b).length:Int)-0)*3) (drop (0*3) (List.take (toNat ((keepR t b).length:Int)*3) (encN (keepR t b++drop (keepR t b).length t))++List.flatten (List.replicate (t.length-toNat ((keepR t b).length:Int)) [str { data:=#[] },PV.nils,str { data:=#[] }]))))=pNs (keepR t b):=by rw[nqF,Nat.sub_zero,Nat.zero_mul,List.drop_zero,jjr,List.take_left,List.take_append_of_le_length (by rw[jcq];exact Nat.le_refl _),List.take_of_length_le (by rw[jcq];exact Nat.le_refl _)]
    rw[n1,n2,er];simp(disch:=omega) only[dT,hlt,beq_self_eq_true,Nat.beq_refl,Bool.and_true,Bool.true_and];rfl
   .rw [dF hlt]at h;cases h;rw[if_neg hlt];rfl
 .rename_i f s g q r;obtain⟨hc,he⟩:=pick1 h;cases he;rw[nqE]at hc;obtain⟨b,rfl,rfl,rfl,rfl,hy⟩:=ja0 hc.1;rw[nqB hc.2];refine⟨loops [],(jok b).trans ?_⟩;have e1:isNs (.sl 0 [])=true:=jbg (t:=[]) ⟨Nat.zero_le _,fun _ h=>by cases h⟩;have e2:asNs (.sl 0 [])=[]:=jao [];rw[e1,e2,tbI hy];rfl
 .cases h
theorem jmC:jab prog 81 E_CloN1:=jac mix (tab:=[]) trivial (lp:=[(1000000,[5,7],[])]) (LO:=LO0) ⟨Tryz.func81,by kernel_rfl,by kernel_rfl⟩ (by kernel_rfl) fun ivs res bxs h=>by
 unfold E_CloN1 at h;split at h
 .rename_i p;obtain⟨hc,he⟩:=pick1 h;cases he;obtain⟨k0,k1⟩:=andE hc;obtain⟨t,rfl,ht⟩:=jae k0;have e1:asNs (pNs t)=t:=jao t;have h2:=nqI k1;rw[e1]at h2 ⊢;have hl:=ht.1;cases t with
  |nil=>simp at h2
  |cons x t=>
   have tree:=jpT x t;rw[nqH]at hl;have b1:beq (str x.name::sl x.subs.length (x.subs.map str)::str x.value::encN t).length ((t.length+1)*3)=true:=by rw[show(str x.name::sl x.subs.length (x.subs.map str)::str x.value::encN t)=encN (x::t)from rfl,jcq,nqH,Nat.beq_refl]
   rw[b1,dT (show 0+(t.length+1)<=140737488351232 by omega),dT (show(0+(t.length+1))*56<=140737488355328 by omega),Nat.zero_add]at tree;exact⟨jam (by kernel_rfl),tree⟩
 .cases h
theorem jr5:jab prog 81 E_CloN0:=⟨jmC.1,fun ivs res bxs h=>by
 unfold E_CloN0 at h;split at h
 .rename_i n l;obtain⟨hc,he⟩:=pick1 h;cases he;obtain⟨k0,k1⟩:=andE hc;obtain rfl:=nqB k0;obtain rfl:=jfi k1;refine jeV (ps:=[.sl 0 []]) (p:=.sl 0 []) fun w com vals hv hfr hgl=>?_
  obtain⟨v,vs,rfl,hv1,hn⟩:=hv.of_cons;rw[hn.of_nil];have fin:∀ (a:Option Addr) (c:Nat),Calls prog 81 #[.slice a 0 c] w fun e w'=>∃ a' c',e=.returned (.slice a' 0 c')/\Below w.heap.size w w':=fun a c=>by
   cases a with
   |none=>exact jtf c w
   |some a=>exact jqF a c w
  cases hv1 with
  |sl0 a c=>
   refine(fin a c).mono ?_;rintro e w' ⟨a',c',rfl,hb⟩;exact⟨.slice a' 0 c',com,rfl,.sl0 a' c',⟨fun _=>Nat.le_refl _,fun b i hi=>jax.cell_of_block (hb.block b (by
    rcases Nat.lt_or_ge b w.heap.size with h|h
    .exact h
    .rw [hfr b h]at hi;exact absurd hi (Nat.not_lt_zero _)))⟩,fun b hs=>hfr b (Nat.le_trans hb.size hs),fun _ _=>rfl,hb⟩
  |sl b off n cap cs l hn hl h1 hc hm he=>
   refine(fin _ _).mono ?_;rintro e w' ⟨a',c',rfl,hb⟩;exact⟨.slice a' 0 c',com,rfl,.sl0 a' c',⟨fun _=>Nat.le_refl _,fun b i hi=>jax.cell_of_block (hb.block b (by
    rcases Nat.lt_or_ge b w.heap.size with h|h
    .exact h
    .rw [hfr b h]at hi;exact absurd hi (Nat.not_lt_zero _)))⟩,fun b hs=>hfr b (Nat.le_trans hb.size hs),fun _ _=>rfl,hb⟩
 .cases h⟩
theorem ju8:jab prog 81 E_CloN:=jrH jr5 jmC
theorem jt2:jad prog scb4:=⟨jvl,ju8,jqz⟩
theorem jj9{t:List NodeT}{b:TblT}{x:NodeT}(h:x∈keepR t b):x∈t/\rwN b x=true:=by
 unfold keepR at h;rw[List.mem_filter]at h;refine⟨h.1,?_⟩;have:=h.2;unfold noR at this;cases hr:rwN b x<;>rw[hr]at this<;>first|rfl|cases this
theorem jil{t:List NodeT}(h:shT t)(b:TblT):shT (keepR t b):=⟨Nat.le_trans (jec t b) h.1,fun x hx=>h.2 x (jj9 hx).1⟩
theorem jsf:jab prog 59 E_rowNs:=jcJ mix jt2 (lp:=[(1000001,[144],[])]) (LO:=LO0) ⟨Tryz.func59,by kernel_rfl,by kernel_rfl⟩ (by kernel_rfl) fun ivs res bxs h=>by
 unfold E_rowNs at h;split at h
 .rename_i p q;obtain⟨hc,he⟩:=pick1 h;cases he;obtain⟨k0,k1⟩:=andE hc;obtain⟨t,rfl,h_t⟩:=jae k0;obtain⟨b,rfl,h_b⟩:=jar k1;have e_t:asT (pT t)=t:=jaL t;have e_b:asTb (pTb b)=b:=jak b;rw[e_t,e_b];have tree:=jnC t b;revert tree;try delta zzaq0;intro tree
  have i1:isNs (sl t.length (encN t))=true:=jbG (enc:=pNs) h_t;have a1:asNs (sl t.length (encN t))=t:=jao t;rw[tbI h_b,i1,a1,i1,a1,tbA]at tree;cases t with
  |nil=>refine⟨jam (by kernel_rfl),_,tree.trans (by rw[show encN []=[]from rfl,jfY];rfl),rfl,rfl⟩
  |cons x t=>
   have hz:beq (x::t).length 0=false:=rfl;rw[hz,Bool.false_and,brFc,dT (show 1<=(x::t).length by rw[nqH];omega)]at tree;by_cases hg:goIdR (x::t) b<(x::t).length
   .rw [dT hg]at tree;exact⟨jam (by kernel_rfl),_,tree,rfl,rfl⟩
   .rw [dF hg]at tree;refine⟨jam (by kernel_rfl),_,tree,rfl,?_⟩;rw[jmB b _ hg];rfl
 .cases h
theorem jvH:jab prog 60 E_unpM:=jac mix jum (lp:=[(1000000,[10,20],[23,27,33]),(2000016,[8,0,17],[])]) (LO:=LO0) ⟨Tryz.func60,by kernel_rfl,by kernel_rfl⟩ (by kernel_rfl) fun ivs res bxs h=>by
 unfold E_unpM at h;split at h
 .rename_i p k v;have key:∀ b,shTb b->k.size<=50000->v.size<=50000->tblB b=true->jtD brC b k v=if unpB b k v=true then some (.tup [.agg [.lst 1 9 (jay b k v).length ((jay b k v).map .str) true],cI 0],[])else some (.tup [.agg [.pv .nils],cI 14],[]):=fun b hb hk hv hB=>by
   have tree:=jow b k v;revert tree;try delta zzak1;intro tree
   revert tree;try delta zzak0;intro tree
   obtain⟨c1,c5⟩:=jfD hB;have hsh:=joS hv;have hpk:=jon b k v;have fin:∀ cs:List ByteArray,jay b k v=cs->shL cs->∀ X:Option (IV×List (List CV)),X=brC (isTb (agg [str b.name,str b.glob,sl b.cols.length (b.cols.map str),sl b.idxs.length (b.idxs.map str)])&&isRw (agg [sl cs.length (cs.map .str)])&&decide (1<=(asTb (agg [str b.name,str b.glob,sl b.cols.length (b.cols.map str),sl b.idxs.length (b.idxs.map str)])).cols.length))
     (brC (!rowB (asTb (agg [str b.name,str b.glob,sl b.cols.length (b.cols.map str),sl b.idxs.length (b.idxs.map str)])) (asRw (agg [sl cs.length (cs.map .str)])))
      (some (.tup [.agg [.pv .nils],cI 14],[]))
      (brC (isRw (agg [sl cs.length (cs.map .str)])&&decide (1<=(asRw (agg [sl cs.length (cs.map .str)])).length)&&decide ((packL (asRw (agg [sl cs.length (cs.map .str)]))).length<=1048576))
       (brC (!(toList (bs (packL (asRw (agg [sl cs.length (cs.map .str)]))))==toList v))
        (some (.tup [.agg [.pv .nils],cI 14],[]))
        (some (.tup [.agg [.lst 1 9 cs.length (cs.map .str) true],cI 0],[])))
       none))
     none->X=if unpB b k v=true then some (.tup [.agg [.lst 1 9 (jay b k v).length ((jay b k v).map .str) true],cI 0],[])else some (.tup [.agg [.pv .nils],cI 14],[]):=fun cs hcs hsc X hX=>by
    rw[hX];have f1:isTb (agg [str b.name,str b.glob,sl b.cols.length (b.cols.map str),sl b.idxs.length (b.idxs.map str)])=true:=jaM hb;have f2:isRw (agg [sl cs.length (cs.map .str)])=true:=joz hsc;have f3:asTb (agg [str b.name,str b.glob,sl b.cols.length (b.cols.map str),sl b.idxs.length (b.idxs.map str)])=b:=jak b;have f4:asRw (agg [sl cs.length (cs.map .str)])=cs:=jgk cs;rw[f1,f2,f3,f4,dT c1];unfold unpB;rw[hcs]at hpk ⊢;cases hR:rowB b cs with
    |false=>rfl
    |true=>
     obtain⟨g1,g2⟩:=jsk hB hR;rw[dT g1,dT (show(packL cs).length<=1048576 by omega)];have e:(toList (bs (packL cs))==toList v)=(decide (1<b.cols.length)||v.data.toList.isEmpty):=by
      rw[joV,ByteArray.toList_eq,Bool.eq_iff_iff,beq_iff_eq];exact hpk
     rw[e];cases(decide (1<b.cols.length)||v.data.toList.isEmpty)<;>rfl
   by_cases h1:1<b.cols.length
   .have hcs:jay b k v=k::cutV v:=by rw[jcd,if_pos h1]
    have hsc:shL (k::cutV v):=⟨by
     have h4:=(jdX (datas (cutV v))).1;rw[(jci v).1,List.length_map]at h4;have hq:v.data.toList.length=v.size:=by rw[Array.length_toList];rfl
     rw[nqH];omega,fun u hu=>by
     rcases List.mem_cons.1 hu with rfl|hu
     .omega
     .exact hsh.2 u hu⟩
    have hl:=hsh.1;have hcar:holds (jly ⟨#[94]⟩)=true:=jaX rfl;have b1:beq ((cutV v).map str).length ((cutV v).length*1)=true:=by rw[List.length_map,Nat.mul_one];exact Nat.beq_refl _
    rw[dT (show(b.cols.length:Int)>1 by omega),hcar,b1,dT (show v.size<=1048576 by omega),dT (show 1+(cutV v).length<=140737488351232 by omega),dT (show(1+(cutV v).length)*16<=140737488355328 by omega),Nat.add_comm 1]at tree;exact fin _ hcs hsc _ (tree.trans rfl)
   .have hcs:jay b k v=[k]:=by rw[jcd,if_neg h1]
    have hsc:shL [k]:=⟨by simp,fun u hu=>by rw[List.mem_singleton.1 hu];omega⟩
    rw[dF (show ¬(b.cols.length:Int)>1 by omega)]at tree;exact fin _ hcs hsc _ (tree.trans rfl)
  refine⟨jam (by kernel_rfl),?_⟩;rcases pick2 h with⟨hc,he⟩|⟨hc1,hc,he⟩
  .cases he;simp only[nqE,decide_eq_true_eq]at hc;obtain⟨⟨⟨⟨h1,h2⟩,h3⟩,h4⟩,h5⟩:=hc;obtain⟨b,rfl,hb⟩:=jar h1;have e4:asTb (pTb b)=b:=jak b;rw[e4]at h4 h5 ⊢;exact(key b hb h2 h3 h4).trans (by rw[if_pos h5])
  .cases he;simp only[nqE,decide_eq_true_eq]at hc;obtain⟨⟨⟨h1,h2⟩,h3⟩,h4⟩:=hc;obtain⟨b,rfl,hb⟩:=jar h1;have e4:asTb (pTb b)=b:=jak b;rw[h1,dT h2,dT h3,e4]at hc1;rw[e4]at h4;rw[h4]at hc1;exact(key b hb h2 h3 h4).trans (by rw[if_neg (by rw[show unpB b k v=false from hc1];exact Bool.false_ne_true)])
 .cases h
theorem jiG{l:List NodeT}(h:nodR l=true){i:Nat}(hi:i<l.length):∃ a c,l[i].subs=[a,c]/\c.size<=24/\l[i].value.size<=64:=by
 have:=List.all_eq_true.1 h _ (List.getElem_mem hi);obtain⟨h1,h2⟩:=andE this;obtain⟨h2,h3⟩:=andE h2;have h1:=nqI h1;have h2:=nqI h2;have h3:=nqI h3
 match hs:l[i].subs,h1 with
 |[a,c],_=>
  rw[hs]at h2;exact⟨a,c,rfl,h2,h3⟩
theorem jsJ{x:NodeT}(h:nodeB x=true):x.value.size<=64/\∀ s∈x.subs,s.size<=24:=by
 unfold nodeB jaO subsB at h;simp only[nqE,decide_eq_true_eq]at h;refine⟨h.2,fun s hs=>?_⟩;have:=List.all_eq_true.1 h.1.2.2 s hs;unfold subB at this;simp only[nqE,decide_eq_true_eq]at this;exact this.2
theorem jd1{t:List NodeT}(h:treeB t=true)(b:TblT):nodR (keepR t b)=true:=by
 obtain⟨_,hall,_⟩:=jdJ h;refine List.all_eq_true.2 fun x hx=>?_
 obtain⟨hm,hr⟩:=jj9 hx;have hb:=hall x hm;unfold rwN at hr;obtain⟨_,hr⟩:=andE hr;obtain⟨h2,_⟩:=andE hr;have h2:=nqI h2;have hv:x.value.size<=64/\∀ s∈x.subs,s.size<=24:=jsJ hb;rw[dT h2,dT hv.1,Bool.and_true,Bool.true_and]
 match hs:x.subs,h2 with
 |[a,c],_=>exact dT (hv.2 c (by rw[hs];simp))
theorem jta(t:List NodeT)(h:shT t)(b:TblT)(hb:shTb b):∀ (m i:Nat),m+i=t.length ->
  LoopsTo (rdB brC prog [] jlV jmW Tryz.f32 3 []) [aBx 2 [.pv (pNs t)],bxTb 3 b,aFn 5 (keepR (t.take i) b),aI i] (.exit 0,[aFn 5 (keepR t b)]):=by
 have hl:=h.1;intro m;induction m with
 |zero=>
  intro i hm;obtain rfl:i=t.length:=by omega
  rw[List.take_length];refine .done _ _ ((jmT t b (keepR t b) t.length).trans ?_)
  try delta zzam0
  rw[dF (by omega)];rfl
 |succ m ih=>
  intro i hm;have hi:i<t.length:=by omega
  have ih':=ih (i+1) (by omega);have hkl:=jec (t.take i) b;rw[List.length_take]at hkl;have tree:=jmT t b (keepR (t.take i) b) i;revert tree;try delta zzam0;intro tree
  have b3:∀ (x y z:PV),beq (length [x,y,z]) (1*3)=true:=fun _ _ _=>rfl
  simp(disch:=omega) only[dT,nqF,jaG t i hi,b3,nqH,List.headD_cons,List.tail_cons,isStr,asStr,isSl,slN,slL,ble3,wrap1,Bool.and_true,Bool.true_and]at tree;have ek:keepR (t.take (i+1)) b=keepR (t.take i) b++(if rwN b t[i]=true then [t[i]]else []):=by
   rw[List.take_succ_eq_append_getElem hi,jdI,jc6];unfold noR;rw[Bool.not_not]
  have hskip:rwN b t[i]=false->keepR (t.take (i+1)) b=keepR (t.take i) b:=fun e=>by rw[ek,e,if_neg Bool.false_ne_true,List.append_nil]
  unfold rwN at ek hskip;cases h1:(t[i].name.toList==b.glob.toList)with
  |false=>
   rw[h1]at tree hskip;rw[hskip rfl]at ih';exact .step _ _ _ tree ih'
  |true=>
   rw[h1]at tree hskip ek;obtain⟨u,hs⟩:∃ u,t[i].subs=u:=⟨_,rfl⟩
   rw[hs]at tree hskip ek
   match u with
   |[]=>
    rw[hskip rfl]at ih';exact .step _ _ _ tree ih'
   |a::l=>
    by_cases h2:(a::l).length=2
    .have h3:((((a::l).length:Nat):Int)==2)=true:=by rw[h2];rfl
     have h4:(0:Int)<(((a::l).length:Nat):Int):=by rw[h2];decide
     rw[h3,dT h4]at tree;rw[dT h2]at hskip ek;cases h5:(a.toList==[114])with
     |false=>
      have h5':=h5;rw[show((a::l).headD ⟨#[]⟩)=a from rfl,h5]at hskip;rw[hskip rfl]at ih';refine .step _ _ _ (tree.trans ?_) ih';show brC true (brC true (brC true (brC (a.toList==[114]) _ _) _) _) _=_;rw[h5];rfl
     |true=>
      rw[show((a::l).headD ⟨#[]⟩)=a from rfl,h5]at ek;replace ek:keepR (t.take (i+1)) b=keepR (t.take i) b++[t[i]]:=ek;rw[ek]at ih';unfold aFn at ih';rw[jd8,nqG,List.length_singleton,show encN [t[i]]=[str t[i].name,sl (a::l).length ((a::l).map str),str t[i].value]from by
       show [str t[i].name,sl t[i].subs.length (t[i].subs.map str),str t[i].value]=_;rw[hs]]at ih'
      refine .step _ _ _ (tree.trans ?_) ih';show brC true (brC true (brC true (brC (a.toList==[114]) _ _) _) _) _=_;rw[h5];rfl
    .have h3:((((a::l).length:Nat):Int)==2)=false:=beq_eq_false_iff_ne.2 (by omega);rw[h3]at tree;rw[dF h2]at hskip;rw[hskip rfl]at ih';exact .step _ _ _ tree ih'
theorem jwm:jab prog 32 E_rowNs:=jcJ mix (tab:=[]) trivial (lp:=jlV) (LO:=jmW) ⟨Tryz.func32,by kernel_rfl,by kernel_rfl⟩ (by kernel_rfl) fun ivs res bxs h=>by
 unfold E_rowNs at h;split at h
 .rename_i p q;obtain⟨hc,he⟩:=pick1 h;cases he;obtain⟨k0,k1⟩:=andE hc;obtain⟨t,rfl,h_t⟩:=jae k0;obtain⟨b,rfl,h_b⟩:=jar k1;have e_t:asT (pT t)=t:=jaL t;have e_b:asTb (pTb b)=b:=jak b;rw[e_t,e_b];have tree:=jsn t b;have i1:isNs (pNs t)=true:=jbG (enc:=pNs) h_t;have a1:asNs (pNs t)=t:=jao t;rw[tbI h_b,tbA,i1,a1,jfY]at tree;refine⟨jaw 3 (by kernel_rfl) (by kernel_rfl) (by kernel_rfl) ?_,_,tree,rfl,rfl⟩;intro ls e ls' hl;replace hl:pickA (jhE ls)=some (e,ls'):=hl;unfold jhE at hl;split at hl
  .rename_i y p x s g q r z e n l i;obtain⟨hc,he⟩:=pick1 hl;cases he;obtain⟨⟨⟨⟨⟨⟨⟨⟨g0,g1⟩,g2⟩,g3⟩,g4⟩,g5⟩,g6⟩,g7⟩,g8⟩:=andE8 hc;obtain⟨b,rfl,rfl,rfl,rfl,h_b⟩:=ja0 g0;obtain⟨t,rfl,h_t⟩:=jae g1;have e_t:asNs (pNs t)=t:=jao t;obtain rfl:=nqB g2;obtain rfl:=nqB g3;obtain rfl:=nqB g4;obtain rfl:=nqB g5;obtain rfl:=nqB g6;obtain rfl:=jfi g7;rw[eq_of_beq g8,tbA,e_t];have:=jta t h_t b h_b t.length 0 rfl;rw[List.take_zero]at this;exact this
  .cases hl
 .cases h
def sdb0:List (FuncId×Entry):=(25,E_eqNds)::(26,E_eqSt)::[]
def jwz(br:Br)(t u:List NodeT):=evB br prog sdb0 [] LO0 Tryz.f10 [cP (pT t),cP (pT u)]
def E_eqTr:Entry:=fun ivs=>match ivs with
 |[.cv (.pv p),.cv (.pv q)]=>[(isT p&&isT q,cB (holds (asT p=asT q)),[])]
 |_=>[]
def jw4(br:Br)(x y:TblT):=evB br prog sdb0 [] LO0 Tryz.f11 [cP (pTb x),cP (pTb y)]
def E_eqTb:Entry:=fun ivs=>match ivs with
 |[.cv (.pv p),.cv (.pv q)]=>[(isTb p&&isTb q,cB (holds (asTb p=asTb q)),[])]
 |_=>[]
theorem jqs(t:List NodeT)(u:List NodeT):jwz brC t u=brC (isNs (sl t.length (encN t))&&isNs (sl u.length (encN u))) (brC (!holds (asNs (sl t.length (encN t))=asNs (sl u.length (encN u)))) (some ((.cv (.pv (.bool false)),[]))) (some ((.cv (.pv (.bool true)),[])))) none:=by kernel_rfl
theorem jp9(x:TblT)(y:TblT):jw4 brC x y=brC (!toList x.name==toList y.name) (some ((.cv (.pv (.bool false)),[]))) (brC (!toList x.glob==toList y.glob) (some ((.cv (.pv (.bool false)),[]))) (brC (isL (sl x.cols.length (map str x.cols))&&isL (sl y.cols.length (map str y.cols))) (brC (!holds (asL (sl x.cols.length (map str x.cols))=asL (sl y.cols.length (map str y.cols)))) (some ((.cv (.pv (.bool false)),[]))) (brC (isL (sl x.idxs.length (map str x.idxs))&&isL (sl y.idxs.length (map str y.idxs))) (brC (!holds (asL (sl x.idxs.length (map str x.idxs))=asL (sl y.idxs.length (map str y.idxs)))) (some ((.cv (.pv (.bool false)),[]))) (some ((.cv (.pv (.bool true)),[])))) none)) none)):=by kernel_rfl
theorem joH:jad prog sdb0:=⟨jty,jrv,trivial⟩
theorem tbEq(x y:TblT):holds (x=y)=((x.name.toList==y.name.toList)&&((x.glob.toList==y.glob.toList)&&(holds (x.cols=y.cols)&&holds (x.idxs=y.idxs)))):=by
 rw[Bool.eq_iff_iff];constructor
 .intro h;have e:=jaK h;subst e;rw[jaX (rfl:x.cols=x.cols),jaX (rfl:x.idxs=x.idxs),beq_self_eq_true,beq_self_eq_true];rfl
 .intro h;simp only[nqE,beq_iff_eq]at h;obtain⟨h1,h2,h3,h4⟩:=h;have h1:=ba_tl h1;have h2:=ba_tl h2;have h3:=jaK h3;have h4:=jaK h4;cases x;cases y;dsimp only at h1 h2 h3 h4;rw[h1,h2,h3,h4];exact jaX rfl
theorem jvC:jab prog 10 E_eqTr:=jac mix joH (lp:=[]) (LO:=LO0) ⟨Tryz.func10,by kernel_rfl,by kernel_rfl⟩ (by kernel_rfl) fun ivs res bxs h=>by
 unfold E_eqTr at h;split at h
 .rename_i p q;obtain⟨hc,he⟩:=pick1 h;cases he;obtain⟨k0,k1⟩:=andE hc;obtain⟨t,rfl,h_t⟩:=jae k0;obtain⟨u,rfl,h_u⟩:=jae k1;have e_t:asT (pT t)=t:=jaL t;have e_u:asT (pT u)=u:=jaL u;rw[e_t,e_u];refine⟨jam (by kernel_rfl),(jqs t u).trans ?_⟩;rw[show isNs (sl t.length (encN t))=true from jbg h_t,show isNs (sl u.length (encN u))=true from jbg h_u,show asNs (sl t.length (encN t))=t from jao t,show asNs (sl u.length (encN u))=u from jao u];cases holds (t=u)<;>rfl
 .cases h
theorem jvV:jab prog 11 E_eqTb:=jac mix joH (lp:=[]) (LO:=LO0) ⟨Tryz.func11,by kernel_rfl,by kernel_rfl⟩ (by kernel_rfl) fun ivs res bxs h=>by
 unfold E_eqTb at h;split at h
 .rename_i p q;obtain⟨hc,he⟩:=pick1 h;cases he;obtain⟨k0,k1⟩:=andE hc;obtain⟨x,rfl,h_x⟩:=jae k0;obtain⟨y,rfl,h_y⟩:=jae k1;have e_x:asTb (pTb x)=x:=jak x;have e_y:asTb (pTb y)=y:=jak y;rw[e_x,e_y,tbEq];refine⟨jam (by kernel_rfl),(jp9 x y).trans ?_⟩;have i1:=jaj h_x.2.2.1;have i2:=jaj h_y.2.2.1;have i3:=jaj h_x.2.2.2;have i4:=jaj h_y.2.2.2;simp only[isL,i1,i2,i3,i4,jaf,Bool.and_true];generalize (x.name.toList==y.name.toList)=a;generalize (x.glob.toList==y.glob.toList)=b;generalize holds (x.cols=y.cols)=c;generalize holds (x.idxs=y.idxs)=d;cases a<;>cases b<;>cases c<;>cases d<;>rfl
 .cases h
structure ChT where
 kind:Int
 name:ByteArray
 subs:List ByteArray
 value:ByteArray
deriving Inhabited
def encC:List ChT->List PV
 |[]=>[]
 |x::t=>.int .i64 x.kind::.str x.name::pL x.subs::.str x.value::encC t
abbrev pCs(t:List ChT):PV:=.sl t.length (encC t)
def shC(x:ChT):Prop:=x.name.size<=1048576/\shL x.subs/\x.value.size<=1048576
def shCs(t:List ChT):Prop:=t.length<=1048576/\∀ x∈t,shC x
theorem jmj:∀ {t u:List ChT},encC t=encC u->t=u
 |[],[],_=>rfl
 |[],_::_,h=>by cases h
 |_::_,[],h=>by cases h
 |x::t,y::u,h=>by
  unfold encC at h;injection h with h0 h;injection h with h1 h;injection h with h2 h;injection h with h3 h;injection h0 with _ h0;injection h1 with h1;injection h3 with h3;have h2:=je0 _ _ h2;have:=jmj h;cases x;cases y
  simp_all
theorem juD(t u:List ChT)(h:pCs t=pCs u):t=u:=by injection h with _ h;exact jmj h
abbrev isCs(p:PV):Bool:=isE pCs shCs p
abbrev asCs(p:PV):List ChT:=asE pCs p
theorem jqo{t:List ChT}(h:shCs t):isE pCs shCs (sl t.length (encC t))=true:=jbG (enc:=pCs) h
theorem jh9(t:List ChT):asE pCs (sl t.length (encC t))=t:=jeM juD t
theorem jfB:∀ (t:List ChT) (i:Nat) (h:i<t.length),(encC t).drop (i*4)=.int .i64 t[i].kind::.str t[i].name::.sl t[i].subs.length (t[i].subs.map str)::.str t[i].value::encC (t.drop (i+1))
 |[],i,h=>by cases h
 |x::t,0,h=>rfl
 |x::t,i+1,h=>by
  have:=jfB t i (by simpa using h);rw[show(i+1)*4=i*4+4 by omega];show drop (i*4+4) (.int .i64 x.kind::.str x.name::pL x.subs::.str x.value::encC t)=_;rw[List.drop_succ_cons,List.drop_succ_cons,List.drop_succ_cons,List.drop_succ_cons,this];simp only[List.getElem_cons_succ,List.drop_succ_cons]
theorem jiA:∀ t u:List ChT,encC (t++u)=encC t++encC u
 |[],u=>rfl
 |x::t,u=>by
  show .int .i64 x.kind::.str x.name::pL x.subs::.str x.value::encC (t++u)=_;rw[jiA t u];rfl
theorem jtM{t:List ChT}(h:shCs t){i:Nat}(hi:i<t.length):shC t[i]:=h.2 _ (List.getElem_mem hi)
def cellX(b:TblT)(l:List ByteArray)(c:ByteArray):ByteArray:=l.getD (posS b.cols c).toNat ⟨#[]⟩
def fstS(l:List ByteArray):ByteArray:=Classical.choose (⟨l.headD ⟨#[]⟩,rfl⟩:∃ x,x=l.headD ⟨#[]⟩)
theorem jlS(l:List ByteArray):fstS l=l.headD ⟨#[]⟩:=Classical.choose_spec (⟨l.headD ⟨#[]⟩,rfl⟩:∃ x,x=l.headD ⟨#[]⟩)
def okC(b:TblT)(l:List ByteArray)(c:ByteArray):Bool:=decide (0<=posS b.cols c)&&decide (posS b.cols c<l.length)
def chI(kind:Int)(b:TblT)(l:List ByteArray)(c:ByteArray):List ChT:=bif ((cellX b l c).toList==[])then []else [⟨kind,b.glob,[⟨#[105]⟩,c,cellX b l c,l.headD ⟨#[]⟩],⟨#[]⟩⟩]
def chIs(kind:Int)(b:TblT)(l:List ByteArray)(cs:List ByteArray):List ChT:=cs.flatMap (chI kind b l)
def sgb0:List (FuncId×Entry):=[(58,E_place)]
def jv3(br:Br)(b:TblT)(l:List ByteArray)(c:ByteArray):=evB br prog sgb0 [] LO0 Tryz.f87 [cP (pTb b),cP (.agg [pL l]),cS c]
def E_cell:Entry:=fun ivs=>match ivs with
 |[.cv (.pv p),.cv (.pv (.agg [q])),.cv (.pv (.str c))]=>[(isTb p&&isL q&&okC (asTb p) (asL q) c,cS (cellX (asTb p) (asL q) c),[])]
 |_=>[]
def sgb1:List (FuncId×Entry):=(87,E_cell)::sgb0
abbrev jmG:List (Nat×List Nat×List Nat):=[(1000000,[25],[]),(1000002,[27],[])]
def jrE(br:Br)(b:TblT)(kind:Int)(l:List ByteArray)(c:ByteArray):=evB br prog sgb1 jmG LO0 Tryz.f61 [cP (pTb b),cI kind,cP (.agg [pL l]),cS c]
def E_inode0:Entry:=fun ivs=>match ivs with
 |[.cv (.pv p),.cv (.pv (.int .i64 k)),.cv (.pv (.agg [q])),.cv (.pv (.str c))]=>
  [(isTb p&&isL q&&okC (asTb p) (asL q) c&&((cellX (asTb p) (asL q) c).toList==[]),.cv (.pv .nils),[]),
   (isTb p&&isL q&&okC (asTb p) (asL q) c,.cv (.dls 4 56 1 (encC (chI k (asTb p) (asL q) c))),[])]
 |_=>[]
def E_inode:Entry:=fun ivs=>match ivs with
 |[.cv (.pv p),.cv (.pv (.int .i64 k)),.cv (.pv (.agg [q])),.cv (.pv (.str c))]=>[(isTb p&&isL q&&okC (asTb p) (asL q) c,.cv (.dls 4 56 (chI k (asTb p) (asL q) c).length (encC (chI k (asTb p) (asL q) c))),[])]
 |_=>[]
def sgb2:List (FuncId×Entry):=(61,E_inode)::sgb1
abbrev jgR:List (Nat×List Nat×List Nat):=[(3,[1,3,5,7,12,13,14],[7]),(1000000,[10],[])]
abbrev bxRw(slot:Nat)(l:List ByteArray):AV×Option Ob:=aBx slot [.pv (pL l)]
abbrev aC0(slot:Nat):AV×Option Ob:=(.own (4096*slot),some (.lst 4 56 0 [] true))
abbrev aCd(slot:Nat)(n:Nat)(l:List PV):AV×Option Ob:=(.own (4096*slot),some (.dls 4 56 n l true none))
def jiv(ls:LS):List (Bool×Ex×LS):=match ls with
 |[(.pv (.int .i64 k),none),(.ptr x 0,some (.box [.pv (.str s),.pv (.str g),.pv q,.pv r])),(.ptr y 0,some (.box [.pv u])),(.own z,some (.lst 4 e 0 [] true)),(.pv p,none),(.pv (.int .i64 n),none),(.pv (.int .i64 i),none)]=>
  [(isTb (.agg [.str s,.str g,q,r])&&isL u&&isL p&&beq x 12288&&beq y 20480&&beq z 28672&&beq e 56&&(n==((asL p).length:Int))&&(i==0)&&beq (asL p).length 0,.exit 0,[aC0 7]),
   (isTb (.agg [.str s,.str g,q,r])&&isL u&&isL p&&beq x 12288&&beq y 20480&&beq z 28672&&beq e 56&&(n==((asL p).length:Int))&&(i==0)&&(asL p).all (okC (asTb (.agg [.str s,.str g,q,r])) (asL u)),.exit 0,[aCd 7 (chIs k (asTb (.agg [.str s,.str g,q,r])) (asL u) (asL p)).length (encC (chIs k (asTb (.agg [.str s,.str g,q,r])) (asL u) (asL p)))])]
 |_=>[]
def jhr:LoopT:=fun k ls=>bif beq k 3 then jiv ls else []
def jw2(br:Br)(kd:Int)(b:TblT)(l cs:List ByteArray)(i:Int):=rdB br prog sgb2 jgR jhr Tryz.f40 3 [] [aI kd,bxTb 3 b,bxRw 5 l,aC0 7,aP (pL cs),aI cs.length,aI i]
def jwS(br:Br)(kd:Int)(b:TblT)(l cs:List ByteArray)(i:Int)(u:List ChT):=rdB br prog sgb2 jgR jhr Tryz.f40 3 [] [aI kd,bxTb 3 b,bxRw 5 l,aCd 7 u.length (encC u),aP (pL cs),aI cs.length,aI i]
def q_ins(br:Br)(b:TblT)(kd:Int)(l:List ByteArray):=evB br prog sgb2 jgR jhr Tryz.f40 [cP (pTb b),cI kd,cP (.agg [pL l])]
def E_ins0:Entry:=fun ivs=>match ivs with
 |[.cv (.pv p),.cv (.pv (.int .i64 k)),.cv (.pv (.agg [q]))]=>
  [(isTb p&&isL q&&beq (asTb p).idxs.length 0,.cv (.lst 4 56 0 [] true),[]),
   (isTb p&&isL q&&(asTb p).idxs.all (okC (asTb p) (asL q)),.cv (.dls 4 56 (chIs k (asTb p) (asL q) (asTb p).idxs).length (encC (chIs k (asTb p) (asL q) (asTb p).idxs))),[])]
 |_=>[]
def E_ins:Entry:=fun ivs=>match ivs with
 |[.cv (.pv p),.cv (.pv (.int .i64 k)),.cv (.pv (.agg [q]))]=>[(isTb p&&isL q&&(asTb p).idxs.all (okC (asTb p) (asL q)),.cv (.dls 4 56 (chIs k (asTb p) (asL q) (asTb p).idxs).length (encC (chIs k (asTb p) (asL q) (asTb p).idxs))),[])]
 |_=>[]
def sgs0:List (FuncId×Entry):=[(31,E_place)]
def q_lix(br:Br)(b:TblT)(l:List ByteArray)(c:ByteArray)(kd:Int):=evB br prog sgs0 [] LO0 Tryz.f18 [cP (pTb b),cP (.agg [pL l]),cS c,cI kd]
def E_lix:Entry:=fun ivs=>match ivs with
 |[.cv (.pv p),.cv (.pv (.agg [q])),.cv (.pv (.str c)),.cv (.pv (.int .i64 k))]=>[(isTb p&&isL q&&okC (asTb p) (asL q) c,cP (pCs (chI k (asTb p) (asL q) c)),[])]
 |_=>[]
theorem jpj(b:TblT)(l:List ByteArray)(c:ByteArray):jv3 brC b l c=brC (isL (sl b.cols.length (map str b.cols))) (brC (decide (0<=posS (asL (sl b.cols.length (map str b.cols))) c)&&decide (posS (asL (sl b.cols.length (map str b.cols))) c<(↑l.length:Int))) (brC (Nat.blt 0 (length (drop (toNat (posS (asL (sl b.cols.length (map str b.cols))) c)*1) (map str l)))&&isStr (headD (drop (toNat (posS (asL (sl b.cols.length (map str b.cols))) c)*1) (map str l)) nilp)&&true) (some ((.cv (.pv (.str (asStr (headD (drop (toNat (posS (asL (sl b.cols.length (map str b.cols))) c)*1) (map str l)) nilp)))),[]))) none) none) none:=by kernel_rfl
theorem jjY(kd:Int)(b:TblT)(l:List ByteArray)(cs:List ByteArray)(i:Int)(u:List ChT):jwS brC kd b l cs i u=brC (decide (i<(↑cs.length:Int))) (brC (decide (0<=i)&&decide (i<(↑cs.length:Int))) (brC (Nat.blt 0 (length (drop (toNat i*1) (map str cs)))&&isStr (headD (drop (toNat i*1) (map str cs)) nilp)&&true) (brC (isTb (agg [str b.name,str b.glob,sl b.cols.length (map str b.cols),sl b.idxs.length (map str b.idxs)])&&isL (sl l.length (map str l))&&okC (asTb (agg [str b.name,str b.glob,sl b.cols.length (map str b.cols),sl b.idxs.length (map str b.idxs)])) (asL (sl l.length (map str l))) (asStr (headD (drop (toNat i*1) (map str cs)) nilp))) (brC (decide (length u+length (chI kd (asTb (agg [str b.name,str b.glob,sl b.cols.length (map str b.cols),sl b.idxs.length (map str b.idxs)])) (asL (sl l.length (map str l))) (asStr (headD (drop (toNat i*1) (map str cs)) nilp)))<=140737488351232)&&decide ((length u+length (chI kd (asTb (agg [str b.name,str b.glob,sl b.cols.length (map str b.cols),sl b.idxs.length (map str b.idxs)])) (asL (sl l.length (map str l))) (asStr (headD (drop (toNat i*1) (map str cs)) nilp))))*64<=140737488355328)) (some (.inl [(.pv (.int .i64 kd),none),(.ptr 12288 0,some (.box [.pv (.str b.name),.pv (.str b.glob),.pv (.sl b.cols.length (map str b.cols)),.pv (.sl b.idxs.length (map str b.idxs))])),(.ptr 20480 0,some (.box [.pv (.sl l.length (map str l))])),(.own 28672,some (.dls 4 56 (length u+length (chI kd (asTb (agg [str b.name,str b.glob,sl b.cols.length (map str b.cols),sl b.idxs.length (map str b.idxs)])) (asL (sl l.length (map str l))) (asStr (headD (drop (toNat i*1) (map str cs)) nilp)))) (encC u++encC (chI kd (asTb (agg [str b.name,str b.glob,sl b.cols.length (map str b.cols),sl b.idxs.length (map str b.idxs)])) (asL (sl l.length (map str l))) (asStr (headD (drop (toNat i*1) (map str cs)) nilp)))) true none)),(.pv (.sl cs.length (map str cs)),none),(.pv (.int .i64 (↑cs.length:Int)),none),(.pv (.int .i64 (wrap .i64 (i+1))),none)])) none) none) none) none) (some (.inr (.exit 0,[(.own 28672,some (.dls 4 56 u.length (encC u) true none))]))):=by kernel_rfl
theorem jr2(b:TblT)(l:List ByteArray)(c:ByteArray)(kd:Int):q_lix brC b l c kd=brC (isL (sl b.cols.length (map str b.cols))) (brC (decide (0<=posS (asL (sl b.cols.length (map str b.cols))) c)&&decide (posS (asL (sl b.cols.length (map str b.cols))) c<(↑l.length:Int))) (brC (Nat.blt 0 (length (drop (toNat (posS (asL (sl b.cols.length (map str b.cols))) c)*1) (map str l)))&&isStr (headD (drop (toNat (posS (asL (sl b.cols.length (map str b.cols))) c)*1) (map str l)) nilp)&&true) (brC (toList (asStr (headD (drop (toNat (posS (asL (sl b.cols.length (map str b.cols))) c)*1) (map str l)) nilp))==[]) (some ((.cv (.lst 4 56 0 [] false),[]))) (brC (decide (0<=0)&&decide (0<(↑l.length:Int))) (brC (Nat.blt 0 (length (drop 0 (map str l)))&&isStr (headD (drop 0 (map str l)) nilp)&&true) (some ((.cv (.lst 4 56 1 [int .i64 kd,str b.glob,sl 4 [str { data:=#[105] },str c,str (asStr (headD (drop (toNat (posS (asL (sl b.cols.length (map str b.cols))) c)*1) (map str l)) nilp)),str (asStr (headD (drop 0 (map str l)) nilp))],str { data:=#[] }] false),[]))) none) none)) none) none) none:=by kernel_rfl
theorem jnY(b:TblT)(kind:Int)(l:List ByteArray)(c:ByteArray):jrE brC b kind l c=brC (isTb (agg [str b.name,str b.glob,sl b.cols.length (map str b.cols),sl b.idxs.length (map str b.idxs)])&&isL (sl l.length (map str l))&&okC (asTb (agg [str b.name,str b.glob,sl b.cols.length (map str b.cols),sl b.idxs.length (map str b.idxs)])) (asL (sl l.length (map str l))) c) (brC (toList (cellX (asTb (agg [str b.name,str b.glob,sl b.cols.length (map str b.cols),sl b.idxs.length (map str b.idxs)])) (asL (sl l.length (map str l))) c)==[]) (some ((.cv (.pv .nils),[]))) (brC (decide (0<=0)&&decide (0<(↑l.length:Int))) (brC (Nat.blt 0 (length (drop 0 (map str l)))&&isStr (headD (drop 0 (map str l)) nilp)&&true) (some ((.cv (.dls 4 56 1 [int .i64 kind,str b.glob,sl 4 [str { data:=#[105] },str c,str (cellX (asTb (agg [str b.name,str b.glob,sl b.cols.length (map str b.cols),sl b.idxs.length (map str b.idxs)])) (asL (sl l.length (map str l))) c),str (asStr (headD (drop 0 (map str l)) nilp))],str { data:=#[] }]),[]))) none) none)) none:=by kernel_rfl
theorem jtt(b:TblT)(kd:Int)(l:List ByteArray):q_ins brC b kd l=brC (isTb (agg [str b.name,str b.glob,pL b.cols,pL b.idxs])&&isL (pL l)&&isL (pL b.idxs)&&beq 12288 12288&&beq 20480 20480&&beq 28672 28672&&beq 56 56&&(↑b.idxs.length:Int)==(↑(length (asL (pL b.idxs))):Int)&&0==0&&beq (length (asL (pL b.idxs))) 0) (some ((.cv (.lst 4 56 0 [] true),[]))) (brC (isTb (agg [str b.name,str b.glob,pL b.cols,pL b.idxs])&&isL (pL l)&&isL (pL b.idxs)&&beq 12288 12288&&beq 20480 20480&&beq 28672 28672&&beq 56 56&&(↑b.idxs.length:Int)==(↑(length (asL (pL b.idxs))):Int)&&0==0&&List.all (asL (pL b.idxs)) (okC (asTb (agg [str b.name,str b.glob,pL b.cols,pL b.idxs])) (asL (pL l)))) (some ((.cv (.dls 4 56 (length (chIs kd (asTb (agg [str b.name,str b.glob,pL b.cols,pL b.idxs])) (asL (pL l)) (asL (pL b.idxs)))) (encC (chIs kd (asTb (agg [str b.name,str b.glob,pL b.cols,pL b.idxs])) (asL (pL l)) (asL (pL b.idxs))))),[]))) none):=by kernel_rfl
theorem jka(kd:Int)(b:TblT)(l:List ByteArray)(cs:List ByteArray)(i:Int):jw2 brC kd b l cs i=brC (decide (i<(↑cs.length:Int))) (brC (decide (0<=i)&&decide (i<(↑cs.length:Int))) (brC (Nat.blt 0 (length (drop (toNat i*1) (map str cs)))&&isStr (headD (drop (toNat i*1) (map str cs)) nilp)&&true) (brC (isTb (agg [str b.name,str b.glob,sl b.cols.length (map str b.cols),sl b.idxs.length (map str b.idxs)])&&isL (sl l.length (map str l))&&okC (asTb (agg [str b.name,str b.glob,sl b.cols.length (map str b.cols),sl b.idxs.length (map str b.idxs)])) (asL (sl l.length (map str l))) (asStr (headD (drop (toNat i*1) (map str cs)) nilp))) (brC (decide (0+length (chI kd (asTb (agg [str b.name,str b.glob,sl b.cols.length (map str b.cols),sl b.idxs.length (map str b.idxs)])) (asL (sl l.length (map str l))) (asStr (headD (drop (toNat i*1) (map str cs)) nilp)))<=140737488351232)&&decide ((0+length (chI kd (asTb (agg [str b.name,str b.glob,sl b.cols.length (map str b.cols),sl b.idxs.length (map str b.idxs)])) (asL (sl l.length (map str l))) (asStr (headD (drop (toNat i*1) (map str cs)) nilp))))*64<=140737488355328)) (some (.inl [(.pv (.int .i64 kd),none),(.ptr 12288 0,some (.box [.pv (.str b.name),.pv (.str b.glob),.pv (.sl b.cols.length (map str b.cols)),.pv (.sl b.idxs.length (map str b.idxs))])),(.ptr 20480 0,some (.box [.pv (.sl l.length (map str l))])),(.own 28672,some (.dls 4 56 (0+length (chI kd (asTb (agg [str b.name,str b.glob,sl b.cols.length (map str b.cols),sl b.idxs.length (map str b.idxs)])) (asL (sl l.length (map str l))) (asStr (headD (drop (toNat i*1) (map str cs)) nilp)))) ([]++encC (chI kd (asTb (agg [str b.name,str b.glob,sl b.cols.length (map str b.cols),sl b.idxs.length (map str b.idxs)])) (asL (sl l.length (map str l))) (asStr (headD (drop (toNat i*1) (map str cs)) nilp)))) true none)),(.pv (.sl cs.length (map str cs)),none),(.pv (.int .i64 (↑cs.length:Int)),none),(.pv (.int .i64 (wrap .i64 (i+1))),none)])) none) none) none) none) (some (.inr (.exit 0,[(.own 28672,some (.lst 4 56 0 [] true))]))):=by kernel_rfl
end
end Go.Proofs.YtmpnjciliaiihaaGreatDoor