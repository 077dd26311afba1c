import Derived.Test.YtkkjelehfbdekaaGreatDoorXXh
import Derived.Test.YtkkjelehfbdekaaGreatDoorXXi
import Derived.Laws.Externs
import Derived.WalkKit
import Derived.Lib.Walk
import Derived.Lib.SliceRun
import Derived.OwnWalk
import Derived.Laws.Cover3
import Derived.Test.YtkkjelehfbdekaaGreatDoorXXg
import Derived.Test.YtkkjelehfbdekaaGreatDoorXXe
import Derived.Test.YtkkjelehfbdekaaGreatDoorXXf
namespace Go.Proofs.YtkkjelehfbdekaaGreatDoor
noncomputable section
set_option linter.unusedVariables false
set_option linter.unusedSimpArgs false
set_option maxRecDepth 100000
section
open Go.RowKit
def rwN (b:TblT) (x:NodeT):Bool:=(x.name.toList==b.glob.toList)&&(decide (x.subs.length=2)&&((x.subs.headD ⟨#[]⟩).toList==[114]))
def noR (b:TblT) (x:NodeT):Bool:=!rwN b x
def keepR (t:List NodeT) (b:TblT):List NodeT:=t.filter fun x=>!noR b x
def q_isR (br:Br) (b:TblT) (x:NodeT):=evB br Tryz.prog [] [] LO0 Tryz.f98 [cP (pTb b),cP (pN x)]
def E_isR:Entry:=fun ivs=>match ivs with
 | [.cv (.pv p),.cv (.pv q)]=>[(isTb p&&isN q,cB (rwN (asTb p) (asN q)),[])]
 | _=>[]
def scb1:List (FuncId×Entry):=[(98,E_isR)]
abbrev rcl (b:TblT):PV:=.clo 97 [.ref [.str b.name,.str b.glob,pL b.cols,pL b.idxs]]
def q_rn1 (br:Br) (x:NodeT) (b:TblT):=evB br Tryz.prog scb1 [] LO0 Tryz.f97 [cP (pN x),cP (.ref [.str b.name,.str b.glob,pL b.cols,pL b.idxs])]
def E_rn1:Entry:=fun ivs=>match ivs with
 | [.cv (.pv p),.cv (.pv (.ref [.str s,.str g,q,r]))]=>[(isN p&&isTb (.agg [.str s,.str g,q,r]),cB (noR (asTb (.agg [.str s,.str g,q,r])) (asN p)),[])]
 | _=>[]
def scb2:List (FuncId×Entry):=(97,E_rn1)::scb1
def goIdR (t:List NodeT) (b:TblT):Nat:=(t.takeWhile fun x=>!noR b x).length
abbrev jil:List (Nat×List Nat×List Nat):=[(2,[0,1,7,8],[4])]
def jfU:LoopT:=fun _ ls=>match ls with
 | [(.pv p,none),(.pv (.clo f [.ref [.str s,.str g,q,r]]),none),(.pv (.int .i64 n),none),(.pv (.int .i64 i),none)]=>
  [(isNs p&&isTb (.agg [.str s,.str g,q,r])&&Nat.beq f 97&&(n==((asNs p).length:Int))&&(i==0)&&decide (goIdR (asNs p) (asTb (.agg [.str s,.str g,q,r]))<(asNs p).length),.ret,[aI (goIdR (asNs p) (asTb (.agg [.str s,.str g,q,r])))]),
   (isNs p&&isTb (.agg [.str s,.str g,q,r])&&Nat.beq f 97&&(n==((asNs p).length:Int))&&(i==0),.exit 0,[aX])]
 | _=>[]
def jwV (br:Br) (t:List NodeT) (b:TblT) (i:Int):=rdB br Tryz.prog scb2 jil jfU Tryz.f120 2 [] [aP (pNs t),aP (rcl b),aI t.length,aI i]
def jwj (br:Br) (t:List NodeT) (b:TblT):=evB br Tryz.prog scb2 jil jfU Tryz.f120 [cP (pNs t),cP (rcl b)]
def E_IdxR:Entry:=fun ivs=>match ivs with
 | [.cv (.pv p),.cv (.pv (.clo f [.ref [.str s,.str g,q,r]]))]=>[(isNs p&&isTb (.agg [.str s,.str g,q,r])&&Nat.beq f 97,cI (if goIdR (asNs p) (asTb (.agg [.str s,.str g,q,r]))<(asNs p).length then goIdR (asNs p) (asTb (.agg [.str s,.str g,q,r])) else -1),[])]
 | _=>[]
def scb3:List (FuncId×Entry):=(120,E_IdxR)::scb2
abbrev jek:List (Nat×List Nat×List Nat):=[(1000000,[38],[]),(5,[0,1,5,6],[0,5])]
def jdq:LoopT:=fun _ ls=>match ls with
 | [(.own x,some (.lst 3 e n l true)),(.pv (.clo f [.ref [.str s,.str g,q,r]]),none),(.pv (.int .i64 i),none),(.pv (.int .i64 j),none)]=>
  [(isNs (.sl n l)&&isTb (.agg [.str s,.str g,q,r])&&Nat.beq f 97&&Nat.beq e 82&&Nat.beq x 0&&(i==(goIdR (asNs (.sl n l)) (asTb (.agg [.str s,.str g,q,r])):Int))&&(j==((goIdR (asNs (.sl n l)) (asTb (.agg [.str s,.str g,q,r])):Int)+1))&&decide (goIdR (asNs (.sl n l)) (asTb (.agg [.str s,.str g,q,r]))<(asNs (.sl n l)).length),
   .exit 0,[aM 0 3 82 n (encN (keepR (asNs (.sl n l)) (asTb (.agg [.str s,.str g,q,r]))++(asNs (.sl n l)).drop (keepR (asNs (.sl n l)) (asTb (.agg [.str s,.str g,q,r]))).length)),aI (keepR (asNs (.sl n l)) (asTb (.agg [.str s,.str g,q,r]))).length])]
 | _=>[]
def jw0 (br:Br) (u:List NodeT) (b:TblT) (i j:Int):=rdB br Tryz.prog scb3 jek jdq Tryz.f95 5 [] [aM 0 3 82 u.length (encN u),aP (rcl b),aI i,aI j]
def jwf (br:Br) (t:List NodeT) (b:TblT):=evB br Tryz.prog scb3 jek jdq Tryz.f95 [.cv (lN t),cP (rcl b)]
def jvo (br:Br) (b:TblT):=evB br Tryz.prog scb3 jek jdq Tryz.f95 [cP (.sl 0 []),cP (rcl b)]
def E_DelR:Entry:=fun ivs=>match ivs with
 | [.cv (.lst 3 e n l true),.cv (.pv (.clo f [.ref [.str s,.str g,q,r]]))]=>
  [(isNs (.sl n l)&&isTb (.agg [.str s,.str g,q,r])&&Nat.beq f 97&&Nat.beq e 82&&decide (goIdR (asNs (.sl n l)) (asTb (.agg [.str s,.str g,q,r]))<(asNs (.sl n l)).length),cP (pNs (keepR (asNs (.sl n l)) (asTb (.agg [.str s,.str g,q,r])))),[]),
   (isNs (.sl n l)&&isTb (.agg [.str s,.str g,q,r])&&Nat.beq f 97&&Nat.beq e 82,.cv (.lst 3 82 n l true),[])]
 | [.cv (.pv (.sl 0 [])),.cv (.pv (.clo f [.ref [.str s,.str g,q,r]]))]=>[(isTb (.agg [.str s,.str g,q,r])&&Nat.beq f 97,cP (.sl 0 []),[])]
 | _=>[]
def jwM (br:Br) (x:NodeT) (t:List NodeT):=evB br Tryz.prog [] [(1000000,[5,7],[])] LO0 Tryz.f96 [cP (.sl (t.length+1) (.str x.name::.sl x.subs.length (x.subs.map .str)::.str x.value::encN t))]
def E_CloN1:Entry:=fun ivs=>match ivs with | [.cv (.pv p)]=>[(isNs p&&decide (1<=(asNs p).length),.cv (.lst 3 82 (asNs p).length (encN (asNs p)) true),[])] | _=>[]
def E_CloN0:Entry:=fun ivs=>match ivs with | [.cv (.pv (.sl n l))]=>[(Nat.beq n 0&&nilB l,cP (.sl 0 []),[])] | _=>[]
def E_CloN:Entry:=fun ivs=>E_CloN0 ivs++E_CloN1 ivs
def scb4:List (FuncId×Entry):=(95,E_DelR)::(96,E_CloN)::scb3
def juC (br:Br) (t:List NodeT) (b:TblT):=evB br Tryz.prog scb4 [(1000001,[144],[])] LO0 Tryz.f69 [cP (pT t),cP (pTb b)]
def E_rowNs:Entry:=fun ivs=>match ivs with
 | [.cv (.pv p),.cv (.pv q)]=>[(isT p&&isTb q,cP (pNs (keepR (asT p) (asTb q))),[])]
 | _=>[]
def jtz (br:Br) (b:TblT) (k v:ByteArray):=evB br Tryz.prog pbb4 [(1000000,[10,20],[23,27,33]),(2000016,[8,0,17],[])] LO0 Tryz.f70 [cP (pTb b),cS k,cS v]
def E_unpM:Entry:=fun ivs=>match ivs with
 | [.cv (.pv p),.cv (.pv (.str k)),.cv (.pv (.str v))]=>
  [(isTb p&&decide (k.size<=50000)&&decide (v.size<=50000)&&tblB (asTb p)&&unpB (asTb p) k v,.tup [.agg [.lst 1 9 (jaX (asTb p) k v).length ((jaX (asTb p) k v).map .str) true],cI 0],[]),
   (isTb p&&decide (k.size<=50000)&&decide (v.size<=50000)&&tblB (asTb p),.tup [.agg [.pv .nils],cI 14],[])]
 | _=>[]
def nodR (l:List NodeT):Bool:=l.all fun x=>decide (x.subs.length=2)&&(decide ((x.subs.getD 1 ⟨#[]⟩).size<=24)&&decide (x.value.size<=64))
def isK (k:ByteArray) (x:NodeT):Bool:=((x.subs.getD 1 ⟨#[]⟩).toList==k.toList)
def findR (l:List NodeT) (k:ByteArray):Option NodeT:=l.find? (isK k)
def rowOf (l:List NodeT) (b:TblT) (k:ByteArray):Int×List ByteArray:=match findR l k with
 | none=>(3,[])
 | some x=>bif unpB b k x.value then (0,jaX b k x.value) else (14,[])
def scb5:List (FuncId×Entry):=(69,E_rowNs)::[(70,E_unpM)]
abbrev jc0:List (Nat×List Nat×List Nat):=[(2,[2,4,6,12,13,14],[6,7])]
abbrev bxTb (slot:Nat) (b:TblT):AV×Option Ob:=aBx slot [.pv (.str b.name),.pv (.str b.glob),.pv (pL b.cols),.pv (pL b.idxs)]
abbrev rwC (l:List ByteArray):CV:=.lst 1 9 l.length (l.map .str) true
def jeb (ls:LS):List (Bool×Ex×LS):=match ls with
 | [(.pv (.str k),none),(.ptr x 0,some (.box [.pv (.str s),.pv (.str g),.pv q,.pv r])),(.ptr y 0,some (.box [.pv .nils])),(.pv p,none),(.pv (.int .i64 n),none),(.pv (.int .i64 i),none)]=>
  [(isTb (.agg [.str s,.str g,q,r])&&isNs p&&Nat.beq x 16384&&Nat.beq y 24576&&(n==((asNs p).length:Int))&&(i==0)&&nodR (asNs p)&&tblB (asTb (.agg [.str s,.str g,q,r]))&&((rowOf (asNs p) (asTb (.agg [.str s,.str g,q,r])) k).1==0),.ret,[aBx 6 [rwC (rowOf (asNs p) (asTb (.agg [.str s,.str g,q,r])) k).2],aI 0]),
   (isTb (.agg [.str s,.str g,q,r])&&isNs p&&Nat.beq x 16384&&Nat.beq y 24576&&(n==((asNs p).length:Int))&&(i==0)&&nodR (asNs p)&&tblB (asTb (.agg [.str s,.str g,q,r]))&&((rowOf (asNs p) (asTb (.agg [.str s,.str g,q,r])) k).1==14),.ret,[aBx 6 [.pv .nils],aI 14]),
   (isTb (.agg [.str s,.str g,q,r])&&isNs p&&Nat.beq x 16384&&Nat.beq y 24576&&(n==((asNs p).length:Int))&&(i==0)&&nodR (asNs p)&&tblB (asTb (.agg [.str s,.str g,q,r])),.exit 0,[aBx 6 [.pv .nils],aX])]
 | _=>[]
def jc1:LoopT:=fun k ls=>bif Nat.beq k 2 then jeb ls else []
def juc (br:Br) (k:ByteArray) (b:TblT) (l:List NodeT) (i:Int):=rdB br Tryz.prog scb5 jc0 jc1 Tryz.f37 2 [] [aS k,bxTb 4 b,aBx 6 [.pv .nils],aP (pNs l),aI l.length,aI i]
def jpJ (br:Br) (t:List NodeT) (b:TblT) (k:ByteArray):=evB br Tryz.prog scb5 jc0 jc1 Tryz.f37 [cP (pT t),cP (pTb b),cS k]
def E_rowAt:Entry:=fun ivs=>match ivs with
 | [.cv (.pv p),.cv (.pv q),.cv (.pv (.str k))]=>
  [(isT p&&isTb q&&treeB (asT p)&&tblB (asTb q)&&((rowOf (keepR (asT p) (asTb q)) (asTb q) k).1==0),.tup [.agg [rwC (rowOf (keepR (asT p) (asTb q)) (asTb q) k).2],cI 0],[]),
   (isT p&&isTb q&&treeB (asT p)&&tblB (asTb q),.tup [.agg [.pv .nils],cI (rowOf (keepR (asT p) (asTb q)) (asTb q) k).1],[])]
 | _=>[]
def rowX (t:List NodeT) (b:TblT) (k:ByteArray):Int×List ByteArray:=bif treeB t&&tblB b then rowOf (keepR t b) b k else (1,[])
abbrev jlD:List (Nat×List Nat×List Nat):=[(3,[2,3,5,6],[5])]
abbrev aFn (slot:Nat) (l:List NodeT):AV×Option Ob:=(.own (4096*slot),some (.lst 3 82 l.length (encN l) false))
def jhR (ls:LS):List (Bool×Ex×LS):=match ls with
 | [(.ptr y 0,some (.box [.pv p])),(.ptr x 0,some (.box [.pv (.str s),.pv (.str g),.pv q,.pv r])),(.own z,some (.lst 3 e n l false)),(.pv (.int .i64 i),none)]=>
  [(isTb (.agg [.str s,.str g,q,r])&&isNs p&&Nat.beq y 8192&&Nat.beq x 12288&&Nat.beq z 20480&&Nat.beq e 82&&Nat.beq n 0&&nilB l&&(i==0),.exit 0,[aFn 5 (keepR (asNs p) (asTb (.agg [.str s,.str g,q,r])))])]
 | _=>[]
def jl3:LoopT:=fun k ls=>bif Nat.beq k 3 then jhR ls else []
def r_lns (br:Br) (t:List NodeT) (b:TblT) (u:List NodeT) (i:Int):=rdB br Tryz.prog [] jlD jl3 Tryz.f60 3 [] [aBx 2 [.pv (pNs t)],bxTb 3 b,aFn 5 u,aI i]
def q_lns (br:Br) (t:List NodeT) (b:TblT):=evB br Tryz.prog [] jlD jl3 Tryz.f60 [cP (pT t),cP (pTb b)]
abbrev jiX:List (Nat×List Nat×List Nat):=[(2,[0,1,5],[4])]
def atV (l:List NodeT) (k:ByteArray):Nat:=(l.takeWhile fun x=>!isK k x).length
def jhI (ls:LS):List (Bool×Ex×LS):=match ls with
 | [(.pv p,none),(.pv (.str k),none),(.pv (.int .i64 i),none)]=>
  [(isNs p&&(i==0)&&nodR (asNs p)&&decide (atV (asNs p) k<(asNs p).length),.ret,[aI (atV (asNs p) k)]),
   (isNs p&&(i==0)&&nodR (asNs p),.exit 0,[aX])]
 | _=>[]
def ji6:LoopT:=fun k ls=>bif Nat.beq k 2 then jhI ls else []
def r_lat (br:Br) (l:List NodeT) (k:ByteArray) (i:Int):=rdB br Tryz.prog [] jiX ji6 Tryz.f61 2 [] [aP (pNs l),aS k,aI i]
def q_lat (br:Br) (l:List NodeT) (k:ByteArray):=evB br Tryz.prog [] jiX ji6 Tryz.f61 [cP (pNs l),cS k]
def E_lat:Entry:=fun ivs=>match ivs with
 | [.cv (.pv p),.cv (.pv (.str k))]=>[(isNs p&&nodR (asNs p),cI (if atV (asNs p) k<(asNs p).length then atV (asNs p) k else -1),[])]
 | _=>[]
def scb7:List (FuncId×Entry):=(60,E_rowNs)::(61,E_lat)::[(62,E_unpacked)]
def q_lra (br:Br) (t:List NodeT) (b:TblT) (k:ByteArray):=evB br Tryz.prog scb7 [] LO0 Tryz.f29 [cP (pT t),cP (pTb b),cS k]
def E_lra:Entry:=fun ivs=>match ivs with
 | [.cv (.pv p),.cv (.pv q),.cv (.pv (.str k))]=>
  [(isT p&&isTb q&&treeB (asT p)&&tblB (asTb q)&&((rowOf (keepR (asT p) (asTb q)) (asTb q) k).1==0),.tup [.agg [.pv (pL (rowOf (keepR (asT p) (asTb q)) (asTb q) k).2)],cI 0],[]),
   (isT p&&isTb q&&treeB (asT p)&&tblB (asTb q),.tup [.agg [.pv .nils],cI (rowOf (keepR (asT p) (asTb q)) (asTb q) k).1],[])]
 | _=>[]
end
section
theorem jnL (b:TblT):jvo brC b=brC (isNs (PV.sl 0 [])&&isTb (PV.agg [PV.str b.name,PV.str b.glob,pL b.cols,pL b.idxs])&&Nat.beq 97 97) (brC ((if goIdR (asNs (PV.sl 0 [])) (asTb (PV.agg [PV.str b.name,PV.str b.glob,pL b.cols,pL b.idxs]))<List.length (asNs (PV.sl 0 [])) then (↑(goIdR (asNs (PV.sl 0 [])) (asTb (PV.agg [PV.str b.name,PV.str b.glob,pL b.cols,pL b.idxs]))):Int) else -1) == -1) (some ((.cv (.pv (.sl 0 [])),[]))) none) none:=by kernel_rfl
theorem jjJ (t:List NodeT) (b:TblT) (i:Int):jwV brC t b i=brC (decide (i<(↑t.length:Int))) (brC (decide (0<=i)&&decide (i<(↑t.length:Int))) (brC (Nat.ble 3 (List.length (List.drop (Int.toNat i*3) (encN t)))&&(PV.isStr (List.headD (List.drop (Int.toNat i*3) (encN t)) PV.nilp)&&(PV.isSl (List.headD (List.tail (List.drop (Int.toNat i*3) (encN t))) PV.nilp)&&(PV.isStr (List.headD (List.tail (List.tail (List.drop (Int.toNat i*3) (encN t)))) PV.nilp)&&true&&true)&&true)&&true)&&true) (brC (isN (PV.agg [PV.str (PV.asStr (List.headD (List.drop (Int.toNat i*3) (encN t)) PV.nilp)),PV.sl (PV.slN (List.headD (List.tail (List.drop (Int.toNat i*3) (encN t))) PV.nilp)) (PV.slL (List.headD (List.tail (List.drop (Int.toNat i*3) (encN t))) PV.nilp)),PV.str (PV.asStr (List.headD (List.tail (List.tail (List.drop (Int.toNat i*3) (encN t)))) PV.nilp))])&&isTb (PV.agg [PV.str b.name,PV.str b.glob,pL b.cols,pL b.idxs])) (brC (noR (asTb (PV.agg [PV.str b.name,PV.str b.glob,pL b.cols,pL b.idxs])) (asN (PV.agg [PV.str (PV.asStr (List.headD (List.drop (Int.toNat i*3) (encN t)) PV.nilp)),PV.sl (PV.slN (List.headD (List.tail (List.drop (Int.toNat i*3) (encN t))) PV.nilp)) (PV.slL (List.headD (List.tail (List.drop (Int.toNat i*3) (encN t))) PV.nilp)),PV.str (PV.asStr (List.headD (List.tail (List.tail (List.drop (Int.toNat i*3) (encN t)))) PV.nilp))]))) (some (.inr (.ret,[(.pv (.int .i64 i),none)]))) (some (.inl [(.pv (.sl t.length (encN t)),none),(.pv (PV.clo 97 [PV.ref [PV.str b.name,PV.str b.glob,PV.sl b.cols.length (List.map PV.str b.cols),PV.sl b.idxs.length (List.map PV.str b.idxs)]]),none),(.pv (.int .i64 (↑t.length:Int)),none),(.pv (.int .i64 (IntKind.wrap .i64 (i+1))),none)]))) none) none) none) (some (.inr (.exit 0,[(.bad,none)]))):=by kernel_rfl
theorem jj5 (u:List NodeT) (b:TblT) (i:Int) (j:Int):jw0 brC u b i j=brC (decide (j<(↑u.length:Int))) (brC (decide (0<=j)&&decide (j<(↑u.length:Int))) (brC (Nat.ble (Int.toNat j*3) (List.length (encN u))&&(Nat.ble 3 (List.length (List.drop (Int.toNat j*3) (encN u)))&&(PV.isStr (List.headD (List.drop (Int.toNat j*3) (encN u)) PV.nilp)&&(PV.isSl (List.headD (List.tail (List.drop (Int.toNat j*3) (encN u))) PV.nilp)&&(PV.isStr (List.headD (List.tail (List.tail (List.drop (Int.toNat j*3) (encN u)))) PV.nilp)&&true&&true)&&true)&&true)&&true)) (brC (isN (PV.agg [PV.str (PV.asStr (List.headD (List.drop (Int.toNat j*3) (encN u)) PV.nilp)),PV.sl (PV.slN (List.headD (List.tail (List.drop (Int.toNat j*3) (encN u))) PV.nilp)) (PV.slL (List.headD (List.tail (List.drop (Int.toNat j*3) (encN u))) PV.nilp)),PV.str (PV.asStr (List.headD (List.tail (List.tail (List.drop (Int.toNat j*3) (encN u)))) PV.nilp))])&&isTb (PV.agg [PV.str b.name,PV.str b.glob,pL b.cols,pL b.idxs])) (brC (!noR (asTb (PV.agg [PV.str b.name,PV.str b.glob,pL b.cols,pL b.idxs])) (asN (PV.agg [PV.str (PV.asStr (List.headD (List.drop (Int.toNat j*3) (encN u)) PV.nilp)),PV.sl (PV.slN (List.headD (List.tail (List.drop (Int.toNat j*3) (encN u))) PV.nilp)) (PV.slL (List.headD (List.tail (List.drop (Int.toNat j*3) (encN u))) PV.nilp)),PV.str (PV.asStr (List.headD (List.tail (List.tail (List.drop (Int.toNat j*3) (encN u)))) PV.nilp))]))) (brC (decide (0<=i)&&decide (i<(↑u.length:Int))) (brC (Nat.beq (List.length [PV.str (PV.asStr (List.headD (List.drop (Int.toNat j*3) (encN u)) PV.nilp)),PV.sl (PV.slN (List.headD (List.tail (List.drop (Int.toNat j*3) (encN u))) PV.nilp)) (PV.slL (List.headD (List.tail (List.drop (Int.toNat j*3) (encN u))) PV.nilp)),PV.str (PV.asStr (List.headD (List.tail (List.tail (List.drop (Int.toNat j*3) (encN u)))) PV.nilp))]) 3&&Nat.ble (Int.toNat i*3+3) (List.length (encN u))) (some (.inl [(.own 0,some (.lst 3 82 u.length (List.take (Int.toNat i*3) (encN u)++[PV.str (PV.asStr (List.headD (List.drop (Int.toNat j*3) (encN u)) PV.nilp)),PV.sl (PV.slN (List.headD (List.tail (List.drop (Int.toNat j*3) (encN u))) PV.nilp)) (PV.slL (List.headD (List.tail (List.drop (Int.toNat j*3) (encN u))) PV.nilp)),PV.str (PV.asStr (List.headD (List.tail (List.tail (List.drop (Int.toNat j*3) (encN u)))) PV.nilp))]++List.drop (Int.toNat i*3+3) (encN u)) true)),(.pv (PV.clo 97 [PV.ref [PV.str b.name,PV.str b.glob,PV.sl b.cols.length (List.map PV.str b.cols),PV.sl b.idxs.length (List.map PV.str b.idxs)]]),none),(.pv (.int .i64 (IntKind.wrap .i64 (i+1))),none),(.pv (.int .i64 (IntKind.wrap .i64 (j+1))),none)])) none) none) (some (.inl [(.own 0,some (.lst 3 82 u.length (encN u) true)),(.pv (PV.clo 97 [PV.ref [PV.str b.name,PV.str b.glob,PV.sl b.cols.length (List.map PV.str b.cols),PV.sl b.idxs.length (List.map PV.str b.idxs)]]),none),(.pv (.int .i64 i),none),(.pv (.int .i64 (IntKind.wrap .i64 (j+1))),none)]))) none) none) none) (some (.inr (.exit 0,[(.own 0,some (.lst 3 82 u.length (encN u) true)),(.pv (.int .i64 i),none)]))):=by kernel_rfl
theorem jsv (t:List NodeT) (b:TblT):q_lns brC t b=brC (isTb (PV.agg [PV.str b.name,PV.str b.glob,pL b.cols,pL b.idxs])&&isNs (pNs t)&&Nat.beq 8192 8192&&Nat.beq 12288 12288&&Nat.beq 20480 20480&&Nat.beq 82 82&&Nat.beq 0 0&&nilB []&&0==0) (some ((.cv (.lst 3 82 (List.length (keepR (asNs (pNs t)) (asTb (PV.agg [PV.str b.name,PV.str b.glob,pL b.cols,pL b.idxs])))) (encN (keepR (asNs (pNs t)) (asTb (PV.agg [PV.str b.name,PV.str b.glob,pL b.cols,pL b.idxs])))) false),[]))) none:=by kernel_rfl
theorem jti (b:TblT) (x:NodeT):q_isR brC b x=brC (ByteArray.toList x.name==ByteArray.toList b.glob) (brC ((↑x.subs.length:Int)==2) (brC (decide (0<=0)&&decide (0<(↑x.subs.length:Int))) (brC (Nat.blt 0 (List.length (List.drop 0 (List.map PV.str x.subs)))&&PV.isStr (List.headD (List.drop 0 (List.map PV.str x.subs)) PV.nilp)&&true) (some ((.cv (.pv (.bool (ByteArray.toList (PV.asStr (List.headD (List.drop 0 (List.map PV.str x.subs)) PV.nilp))==[Subtype.val ⟨ByteArray.get! { data:=#[114] } 0,And.left (Iff.mp List.forall_mem_cons (List.attach._proof_1 [ByteArray.get! { data:=#[114] } 0]))⟩]))),[]))) none) none) (some ((.cv (.pv (.bool false)),[])))) (some ((.cv (.pv (.bool false)),[]))):=by kernel_rfl
def zzao0 (t:List NodeT) (b:TblT) (k:ByteArray):=(keepR (asT (PV.agg [PV.sl (List.length t) (encN t)])) (asTb (PV.agg [PV.str (TblT.name b),PV.str (TblT.glob b),PV.sl (List.length (TblT.cols b)) (List.map PV.str (TblT.cols b)),PV.sl (List.length (TblT.idxs b)) (List.map PV.str (TblT.idxs b))])))
def zzao1 (t:List NodeT) (b:TblT) (k:ByteArray):=(if atV (asNs (PV.sl (List.length (zzao0 t b k)) (encN (zzao0 t b k)))) k<List.length (asNs (PV.sl (List.length (zzao0 t b k)) (encN (zzao0 t b k)))) then (↑(atV (asNs (PV.sl (List.length (zzao0 t b k)) (encN (zzao0 t b k)))) k):Int) else -1)
def zzao2 (t:List NodeT) (b:TblT) (k:ByteArray):=(PV.agg [PV.str (TblT.name b),PV.str (TblT.glob b),PV.sl (List.length (TblT.cols b)) (List.map PV.str (TblT.cols b)),PV.sl (List.length (TblT.idxs b)) (List.map PV.str (TblT.idxs b))])
theorem jsF (t:List NodeT) (b:TblT) (k:ByteArray):q_lra brC t b k=brC (isT (PV.agg [PV.sl t.length (encN t)])&&isTb (zzao2 t b k)) (brC (isNs (PV.sl (List.length (zzao0 t b k)) (encN (zzao0 t b k)))&&nodR (asNs (PV.sl (List.length (zzao0 t b k)) (encN (zzao0 t b k))))) (brC (decide ((zzao1 t b k)<0)) (some ((.tup [.agg [.pv .nils],.cv (.pv (.int .i64 (Int.ofNat 3)))],[]))) (brC (decide (0<=if atV (asNs (PV.sl (List.length (zzao0 t b k)) (encN (zzao0 t b k)))) k<List.length (asNs (PV.sl (List.length (zzao0 t b k)) (encN (zzao0 t b k)))) then (↑(atV (asNs (PV.sl (List.length (zzao0 t b k)) (encN (zzao0 t b k)))) k):Int) else -1)&&decide ((zzao1 t b k)<(↑(List.length (zzao0 t b k)):Int))) (brC (Nat.blt 0 (List.length (List.drop 2 (List.drop (Int.toNat (zzao1 t b k)*3) (encN (zzao0 t b k)))))&&PV.isStr (List.headD (List.drop 2 (List.drop (Int.toNat (zzao1 t b k)*3) (encN (zzao0 t b k)))) PV.nilp)&&true) (brC (isTb (zzao2 t b k)&&decide (ByteArray.size k<=50000)&&decide (ByteArray.size (PV.asStr (List.headD (List.drop 2 (List.drop (Int.toNat (zzao1 t b k)*3) (encN (zzao0 t b k)))) PV.nilp))<=50000)&&tblB (asTb (zzao2 t b k))&&unpB (asTb (zzao2 t b k)) k (PV.asStr (List.headD (List.drop 2 (List.drop (Int.toNat (zzao1 t b k)*3) (encN (zzao0 t b k)))) PV.nilp))) (some ((.tup [.agg [.pv (.sl (List.length (jaX (asTb (zzao2 t b k)) k (PV.asStr (List.headD (List.drop 2 (List.drop (Int.toNat (zzao1 t b k)*3) (encN (zzao0 t b k)))) PV.nilp)))) (List.map PV.str (jaX (asTb (zzao2 t b k)) k (PV.asStr (List.headD (List.drop 2 (List.drop (Int.toNat (zzao1 t b k)*3) (encN (zzao0 t b k)))) PV.nilp)))))],.cv (.pv (.int .i64 (Int.ofNat 0)))],[]))) (brC (isTb (zzao2 t b k)&&decide (ByteArray.size k<=50000)&&decide (ByteArray.size (PV.asStr (List.headD (List.drop 2 (List.drop (Int.toNat (zzao1 t b k)*3) (encN (zzao0 t b k)))) PV.nilp))<=50000)&&tblB (asTb (zzao2 t b k))) (some ((.tup [.agg [.pv .nils],.cv (.pv (.int .i64 (Int.ofNat 14)))],[]))) none)) none) none)) none) none:=by kernel_rfl
theorem jqM (x:NodeT) (t:List NodeT):jwM brC x t=brC (Nat.beq (List.length (PV.str x.name::PV.sl x.subs.length (List.map PV.str x.subs)::PV.str x.value::encN t)) ((List.length t+1)*3)&&(decide (0+(List.length t+1)<=140737488351232)&&decide ((0+(List.length t+1))*56<=140737488355328))) (some ((.cv (.lst 3 82 (0+(List.length t+1)) (PV.str x.name::PV.sl x.subs.length (List.map PV.str x.subs)::PV.str x.value::encN t) true),[]))) none:=by kernel_rfl
def zzap0 (t:List NodeT) (b:TblT) (k:ByteArray):=(keepR (asT (PV.agg [PV.sl (List.length t) (encN t)])) (asTb (PV.agg [PV.str (TblT.name b),PV.str (TblT.glob b),PV.sl (List.length (TblT.cols b)) (List.map PV.str (TblT.cols b)),PV.sl (List.length (TblT.idxs b)) (List.map PV.str (TblT.idxs b))])))
def zzap1 (t:List NodeT) (b:TblT) (k:ByteArray):=(PV.agg [PV.str (TblT.name b),PV.str (TblT.glob b),pL (TblT.cols b),pL (TblT.idxs b)])
theorem jmQ (t:List NodeT) (b:TblT) (k:ByteArray):jpJ brC t b k=brC (isT (PV.agg [PV.sl t.length (encN t)])&&isTb (PV.agg [PV.str b.name,PV.str b.glob,PV.sl b.cols.length (List.map PV.str b.cols),PV.sl b.idxs.length (List.map PV.str b.idxs)])) (brC (isTb (zzap1 t b k)&&isNs (pNs (zzap0 t b k))&&Nat.beq 16384 16384&&Nat.beq 24576 24576&&(↑(List.length (zzap0 t b k)):Int)==(↑(List.length (asNs (pNs (zzap0 t b k)))):Int)&&0==0&&nodR (asNs (pNs (zzap0 t b k)))&&tblB (asTb (zzap1 t b k))&&Prod.fst (rowOf (asNs (pNs (zzap0 t b k))) (asTb (zzap1 t b k)) k)==0) (some ((.tup [.agg [.lst 1 9 (List.length (Prod.snd (rowOf (asNs (pNs (zzap0 t b k))) (asTb (zzap1 t b k)) k))) (List.map PV.str (Prod.snd (rowOf (asNs (pNs (zzap0 t b k))) (asTb (zzap1 t b k)) k))) true],.cv (.pv (.int .i64 (Int.ofNat 0)))],[]))) (brC (isTb (zzap1 t b k)&&isNs (pNs (zzap0 t b k))&&Nat.beq 16384 16384&&Nat.beq 24576 24576&&(↑(List.length (zzap0 t b k)):Int)==(↑(List.length (asNs (pNs (zzap0 t b k)))):Int)&&0==0&&nodR (asNs (pNs (zzap0 t b k)))&&tblB (asTb (zzap1 t b k))&&Prod.fst (rowOf (asNs (pNs (zzap0 t b k))) (asTb (zzap1 t b k)) k)==14) (some ((.tup [.agg [.pv .nils],.cv (.pv (.int .i64 (Int.ofNat 14)))],[]))) (brC (isTb (zzap1 t b k)&&isNs (pNs (zzap0 t b k))&&Nat.beq 16384 16384&&Nat.beq 24576 24576&&(↑(List.length (zzap0 t b k)):Int)==(↑(List.length (asNs (pNs (zzap0 t b k)))):Int)&&0==0&&nodR (asNs (pNs (zzap0 t b k)))&&tblB (asTb (zzap1 t b k))) (some ((.tup [.agg [.pv .nils],.cv (.pv (.int .i64 (Int.ofNat 3)))],[]))) none))) none:=by kernel_rfl
def zzaq0 (k:ByteArray) (b:TblT) (l:List NodeT) (i:Int):=(PV.agg [PV.str (TblT.name b),PV.str (TblT.glob b),PV.sl (List.length (TblT.cols b)) (List.map PV.str (TblT.cols b)),PV.sl (List.length (TblT.idxs b)) (List.map PV.str (TblT.idxs b))])
theorem jg3 (k:ByteArray) (b:TblT) (l:List NodeT) (i:Int):juc brC k b l i=brC (decide (i<(↑l.length:Int))) (brC (decide (0<=i)&&decide (i<(↑l.length:Int))) (brC (Nat.ble 3 (List.length (List.drop (Int.toNat i*3) (encN l)))&&(PV.isStr (List.headD (List.drop (Int.toNat i*3) (encN l)) PV.nilp)&&(PV.isSl (List.headD (List.tail (List.drop (Int.toNat i*3) (encN l))) PV.nilp)&&(PV.isStr (List.headD (List.tail (List.tail (List.drop (Int.toNat i*3) (encN l)))) PV.nilp)&&true&&true)&&true)&&true)&&true) (brC (decide (0<=1)&&decide (1<(↑(PV.slN (List.headD (List.tail (List.drop (Int.toNat i*3) (encN l))) PV.nilp)):Int))) (brC (Nat.blt 0 (List.length (List.drop 1 (PV.slL (List.headD (List.tail (List.drop (Int.toNat i*3) (encN l))) PV.nilp))))&&PV.isStr (List.headD (List.drop 1 (PV.slL (List.headD (List.tail (List.drop (Int.toNat i*3) (encN l))) PV.nilp))) PV.nilp)&&true) (brC (ByteArray.toList (PV.asStr (List.headD (List.drop 1 (PV.slL (List.headD (List.tail (List.drop (Int.toNat i*3) (encN l))) PV.nilp))) PV.nilp))==ByteArray.toList k) (brC (isTb (zzaq0 k b l i)&&decide (ByteArray.size k<=50000)&&decide (ByteArray.size (PV.asStr (List.headD (List.tail (List.tail (List.drop (Int.toNat i*3) (encN l)))) PV.nilp))<=50000)&&tblB (asTb (zzaq0 k b l i))&&unpB (asTb (zzaq0 k b l i)) k (PV.asStr (List.headD (List.tail (List.tail (List.drop (Int.toNat i*3) (encN l)))) PV.nilp))) (some (.inr (.ret,[(.ptr 24576 0,some (.box [.lst 1 9 (List.length (jaX (asTb (zzaq0 k b l i)) k (PV.asStr (List.headD (List.tail (List.tail (List.drop (Int.toNat i*3) (encN l)))) PV.nilp)))) (List.map PV.str (jaX (asTb (zzaq0 k b l i)) k (PV.asStr (List.headD (List.tail (List.tail (List.drop (Int.toNat i*3) (encN l)))) PV.nilp)))) true])),(.pv (.int .i64 (Int.ofNat 0)),none)]))) (brC (isTb (zzaq0 k b l i)&&decide (ByteArray.size k<=50000)&&decide (ByteArray.size (PV.asStr (List.headD (List.tail (List.tail (List.drop (Int.toNat i*3) (encN l)))) PV.nilp))<=50000)&&tblB (asTb (zzaq0 k b l i))) (some (.inr (.ret,[(.ptr 24576 0,some (.box [.pv .nils])),(.pv (.int .i64 (Int.ofNat 14)),none)]))) none)) (some (.inl [(.pv (.str k),none),(.ptr 16384 0,some (.box [.pv (.str b.name),.pv (.str b.glob),.pv (.sl b.cols.length (List.map PV.str b.cols)),.pv (.sl b.idxs.length (List.map PV.str b.idxs))])),(.ptr 24576 0,some (.box [.pv .nils])),(.pv (.sl l.length (encN l)),none),(.pv (.int .i64 (↑l.length:Int)),none),(.pv (.int .i64 (IntKind.wrap .i64 (i+1))),none)]))) none) none) none) none) (some (.inr (.exit 0,[(.ptr 24576 0,some (.box [.pv .nils])),(.bad,none)]))):=by kernel_rfl
theorem jrT (l:List NodeT) (k:ByteArray):q_lat brC l k=brC (isNs (pNs l)&&0==0&&nodR (asNs (pNs l))&&decide (atV (asNs (pNs l)) k<List.length (asNs (pNs l)))) (some ((.cv (.pv (.int .i64 (↑(atV (asNs (pNs l)) k):Int))),[]))) (brC (isNs (pNs l)&&0==0&&nodR (asNs (pNs l))) (some ((.cv (.pv (.int .i64 (Int.negSucc 0))),[]))) none):=by kernel_rfl
theorem jmp (l:List NodeT) (k:ByteArray) (i:Int):r_lat brC l k i=brC (decide (i<(↑l.length:Int))) (brC (decide (0<=i)&&decide (i<(↑l.length:Int))) (brC (Nat.blt 0 (List.length (List.drop 1 (List.drop (Int.toNat i*3) (encN l))))&&PV.isSl (List.headD (List.drop 1 (List.drop (Int.toNat i*3) (encN l))) PV.nilp)&&true) (brC (decide (0<=1)&&decide (1<(↑(PV.slN (List.headD (List.drop 1 (List.drop (Int.toNat i*3) (encN l))) PV.nilp)):Int))) (brC (Nat.blt 0 (List.length (List.drop 1 (PV.slL (List.headD (List.drop 1 (List.drop (Int.toNat i*3) (encN l))) PV.nilp))))&&PV.isStr (List.headD (List.drop 1 (PV.slL (List.headD (List.drop 1 (List.drop (Int.toNat i*3) (encN l))) PV.nilp))) PV.nilp)&&true) (brC (ByteArray.toList (PV.asStr (List.headD (List.drop 1 (PV.slL (List.headD (List.drop 1 (List.drop (Int.toNat i*3) (encN l))) PV.nilp))) PV.nilp))==ByteArray.toList k) (some (.inr (.ret,[(.pv (.int .i64 i),none)]))) (some (.inl [(.pv (.sl l.length (encN l)),none),(.pv (.str k),none),(.pv (.int .i64 (IntKind.wrap .i64 (i+1))),none)]))) none) none) none) none) (some (.inr (.exit 0,[(.bad,none)]))):=by kernel_rfl
def zzar0 (b:TblT) (k:ByteArray) (v:ByteArray):=(PV.agg [PV.str (TblT.name b),PV.str (TblT.glob b),PV.sl (List.length (TblT.cols b)) (List.map PV.str (TblT.cols b)),PV.sl (List.length (TblT.idxs b)) (List.map PV.str (TblT.idxs b))])
def zzar1 (b:TblT) (k:ByteArray) (v:ByteArray):=(PV.agg [PV.sl (1+List.length (cutV v)) (PV.str k::List.append._f [] PUnit.unit (List.map PV.str (cutV v)))])
theorem jo1 (b:TblT) (k:ByteArray) (v:ByteArray):jtz brC b k v=brC (decide ((↑b.cols.length:Int)>1)) (brC (decide (ByteArray.size v<=1048576)&&holds (jkw { data:=#[94] })) (brC (Nat.beq (List.length (List.map PV.str (cutV v))) (List.length (cutV v)*1)&&(decide (1+List.length (cutV v)<=140737488351232)&&decide ((1+List.length (cutV v))*16<=140737488355328))) (brC (isTb (zzar0 b k v)&&isRw (zzar1 b k v)&&decide (1<=List.length (TblT.cols (asTb (zzar0 b k v))))) (brC (!rowB (asTb (zzar0 b k v)) (asRw (zzar1 b k v))) (some ((.tup [.agg [.pv .nils],.cv (.pv (.int .i64 (Int.ofNat 14)))],[]))) (brC (isRw (zzar1 b k v)&&decide (1<=List.length (asRw (zzar1 b k v)))&&decide (List.length (packL (asRw (zzar1 b k v)))<=1048576)) (brC (!ByteArray.toList (bs (packL (asRw (zzar1 b k v))))==ByteArray.toList v) (some ((.tup [.agg [.pv .nils],.cv (.pv (.int .i64 (Int.ofNat 14)))],[]))) (some ((.tup [.agg [.lst 1 9 (1+List.length (cutV v)) (PV.str k::List.append._f [] PUnit.unit (List.map PV.str (cutV v))) true],.cv (.pv (.int .i64 (Int.ofNat 0)))],[])))) none)) none) none) none) (brC (isTb (zzar0 b k v)&&isRw (PV.agg [PV.sl 1 [PV.str k]])&&decide (1<=List.length (TblT.cols (asTb (zzar0 b k v))))) (brC (!rowB (asTb (zzar0 b k v)) (asRw (PV.agg [PV.sl 1 [PV.str k]]))) (some ((.tup [.agg [.pv .nils],.cv (.pv (.int .i64 (Int.ofNat 14)))],[]))) (brC (isRw (PV.agg [PV.sl 1 [PV.str k]])&&decide (1<=List.length (asRw (PV.agg [PV.sl 1 [PV.str k]])))&&decide (List.length (packL (asRw (PV.agg [PV.sl 1 [PV.str k]])))<=1048576)) (brC (!ByteArray.toList (bs (packL (asRw (PV.agg [PV.sl 1 [PV.str k]]))))==ByteArray.toList v) (some ((.tup [.agg [.pv .nils],.cv (.pv (.int .i64 (Int.ofNat 14)))],[]))) (some ((.tup [.agg [.lst 1 9 1 [PV.str k] true],.cv (.pv (.int .i64 (Int.ofNat 0)))],[])))) none)) none):=by kernel_rfl
def zzas0 (t:List NodeT) (b:TblT) (u:List NodeT) (i:Int):=(List.headD (List.tail (List.drop (Int.toNat i*3) (encN t))) PV.nilp)
theorem jlG (t:List NodeT) (b:TblT) (u:List NodeT) (i:Int):r_lns brC t b u i=brC (decide (i<(↑t.length:Int))) (brC (decide (0<=i)&&decide (i<(↑t.length:Int))) (brC (Nat.ble 3 (List.length (List.drop (Int.toNat i*3) (encN t)))&&(PV.isStr (List.headD (List.drop (Int.toNat i*3) (encN t)) PV.nilp)&&(PV.isSl (zzas0 t b u i)&&(PV.isStr (List.headD (List.tail (List.tail (List.drop (Int.toNat i*3) (encN t)))) PV.nilp)&&true&&true)&&true)&&true)&&true) (brC (ByteArray.toList (PV.asStr (List.headD (List.drop (Int.toNat i*3) (encN t)) PV.nilp))==ByteArray.toList b.glob) (brC ((↑(PV.slN (zzas0 t b u i)):Int)==2) (brC (decide (0<=0)&&decide (0<(↑(PV.slN (zzas0 t b u i)):Int))) (brC (Nat.blt 0 (List.length (List.drop 0 (PV.slL (zzas0 t b u i))))&&PV.isStr (List.headD (List.drop 0 (PV.slL (zzas0 t b u i))) PV.nilp)&&true) (brC (ByteArray.toList (PV.asStr (List.headD (List.drop 0 (PV.slL (zzas0 t b u i))) PV.nilp))==[Subtype.val ⟨ByteArray.get! { data:=#[114] } 0,And.left (Iff.mp List.forall_mem_cons (List.attach._proof_1 [ByteArray.get! { data:=#[114] } 0]))⟩]) (brC (Nat.beq (List.length [PV.str (PV.asStr (List.headD (List.drop (Int.toNat i*3) (encN t)) PV.nilp)),PV.sl (PV.slN (zzas0 t b u i)) (PV.slL (zzas0 t b u i)),PV.str (PV.asStr (List.headD (List.tail (List.tail (List.drop (Int.toNat i*3) (encN t)))) PV.nilp))]) (1*3)&&(decide (List.length u+1<=140737488351232)&&decide ((List.length u+1)*56<=140737488355328))) (some (.inl [(.ptr 8192 0,some (.box [.pv (.sl t.length (encN t))])),(.ptr 12288 0,some (.box [.pv (.str b.name),.pv (.str b.glob),.pv (.sl b.cols.length (List.map PV.str b.cols)),.pv (.sl b.idxs.length (List.map PV.str b.idxs))])),(.own 20480,some (.lst 3 82 (List.length u+1) (encN u++[PV.str (PV.asStr (List.headD (List.drop (Int.toNat i*3) (encN t)) PV.nilp)),PV.sl (PV.slN (zzas0 t b u i)) (PV.slL (zzas0 t b u i)),PV.str (PV.asStr (List.headD (List.tail (List.tail (List.drop (Int.toNat i*3) (encN t)))) PV.nilp))]) false)),(.pv (.int .i64 (IntKind.wrap .i64 (i+1))),none)])) none) (some (.inl [(.ptr 8192 0,some (.box [.pv (.sl t.length (encN t))])),(.ptr 12288 0,some (.box [.pv (.str b.name),.pv (.str b.glob),.pv (.sl b.cols.length (List.map PV.str b.cols)),.pv (.sl b.idxs.length (List.map PV.str b.idxs))])),(.own 20480,some (.lst 3 82 u.length (encN u) false)),(.pv (.int .i64 (IntKind.wrap .i64 (i+1))),none)]))) none) none) (some (.inl [(.ptr 8192 0,some (.box [.pv (.sl t.length (encN t))])),(.ptr 12288 0,some (.box [.pv (.str b.name),.pv (.str b.glob),.pv (.sl b.cols.length (List.map PV.str b.cols)),.pv (.sl b.idxs.length (List.map PV.str b.idxs))])),(.own 20480,some (.lst 3 82 u.length (encN u) false)),(.pv (.int .i64 (IntKind.wrap .i64 (i+1))),none)]))) (some (.inl [(.ptr 8192 0,some (.box [.pv (.sl t.length (encN t))])),(.ptr 12288 0,some (.box [.pv (.str b.name),.pv (.str b.glob),.pv (.sl b.cols.length (List.map PV.str b.cols)),.pv (.sl b.idxs.length (List.map PV.str b.idxs))])),(.own 20480,some (.lst 3 82 u.length (encN u) false)),(.pv (.int .i64 (IntKind.wrap .i64 (i+1))),none)]))) none) none) (some (.inr (.exit 0,[(.own 20480,some (.lst 3 82 u.length (encN u) false))]))):=by kernel_rfl
def zzat0 (t:List NodeT) (b:TblT):=(PV.agg [PV.str (TblT.name b),PV.str (TblT.glob b),pL (TblT.cols b),pL (TblT.idxs b)])
def zzat1 (t:List NodeT) (b:TblT):=(↑(List.length (keepR (asNs (PV.sl (List.length t) (encN t))) (asTb (zzat0 t b)))):Int)
theorem jpB (t:List NodeT) (b:TblT):jwf brC t b=brC (isNs (PV.sl t.length (encN t))&&isTb (zzat0 t b)&&Nat.beq 97 97) (brC ((if goIdR (asNs (PV.sl t.length (encN t))) (asTb (zzat0 t b))<List.length (asNs (PV.sl t.length (encN t))) then (↑(goIdR (asNs (PV.sl t.length (encN t))) (asTb (zzat0 t b))):Int) else -1) == -1) (some ((.cv (.lst 3 82 t.length (encN t) true),[]))) (brC (isNs (PV.sl t.length (encN t))&&isTb (zzat0 t b)&&Nat.beq 97 97&&Nat.beq 82 82&&Nat.beq 0 0&&(if goIdR (asNs (PV.sl t.length (encN t))) (asTb (zzat0 t b))<List.length (asNs (PV.sl t.length (encN t))) then (↑(goIdR (asNs (PV.sl t.length (encN t))) (asTb (zzat0 t b))):Int) else -1)==(↑(goIdR (asNs (PV.sl t.length (encN t))) (asTb (zzat0 t b))):Int)&&IntKind.wrap .i64 ((if goIdR (asNs (PV.sl t.length (encN t))) (asTb (zzat0 t b))<List.length (asNs (PV.sl t.length (encN t))) then (↑(goIdR (asNs (PV.sl t.length (encN t))) (asTb (zzat0 t b))):Int) else -1)+1)==(↑(goIdR (asNs (PV.sl t.length (encN t))) (asTb (zzat0 t b))):Int)+1&&decide (goIdR (asNs (PV.sl t.length (encN t))) (asTb (zzat0 t b))<List.length (asNs (PV.sl t.length (encN t))))) (brC (decide (0<=(zzat1 t b))&&decide ((zzat1 t b)<=(↑t.length:Int))&&decide ((↑t.length:Int)<=(↑t.length:Int))&&true) (brC (decide (0<=0)&&decide (0<=(zzat1 t b))&&decide ((zzat1 t b)<=(↑t.length:Int))&&true&&true) (some ((.cv (.pv (.sl (Int.toNat (zzat1 t b)-0) (List.take ((Int.toNat (zzat1 t b)-0)*3) (List.drop (0*3) (List.take (Int.toNat (zzat1 t b)*3) (encN (keepR (asNs (PV.sl t.length (encN t))) (asTb (zzat0 t b))++List.drop (List.length (keepR (asNs (PV.sl t.length (encN t))) (asTb (zzat0 t b)))) (asNs (PV.sl t.length (encN t)))))++List.flatten (List.replicate (List.length t-Int.toNat (zzat1 t b)) [PV.str { data:=#[] },PV.nils,PV.str { data:=#[] }])))))),[]))) none) none) none)) none:=by kernel_rfl
theorem joZ (t:List NodeT) (b:TblT):jwj brC t b=brC (isNs (pNs t)&&isTb (PV.agg [PV.str b.name,PV.str b.glob,pL b.cols,pL b.idxs])&&Nat.beq 97 97&&(↑t.length:Int)==(↑(List.length (asNs (pNs t))):Int)&&0==0&&decide (goIdR (asNs (pNs t)) (asTb (PV.agg [PV.str b.name,PV.str b.glob,pL b.cols,pL b.idxs]))<List.length (asNs (pNs t)))) (some ((.cv (.pv (.int .i64 (↑(goIdR (asNs (pNs t)) (asTb (PV.agg [PV.str b.name,PV.str b.glob,pL b.cols,pL b.idxs]))):Int))),[]))) (brC (isNs (pNs t)&&isTb (PV.agg [PV.str b.name,PV.str b.glob,pL b.cols,pL b.idxs])&&Nat.beq 97 97&&(↑t.length:Int)==(↑(List.length (asNs (pNs t))):Int)&&0==0) (some ((.cv (.pv (.int .i64 (Int.negSucc 0))),[]))) none):=by kernel_rfl
def zzau0 (x:NodeT) (b:TblT):=(PV.agg [PV.str (PV.asStr (List.headD [PV.str (TblT.name b),PV.str (TblT.glob b),pL (TblT.cols b),pL (TblT.idxs b)] PV.nilp)),PV.str (PV.asStr (List.headD [PV.str (TblT.glob b),pL (TblT.cols b),pL (TblT.idxs b)] PV.nilp)),PV.sl (PV.slN (List.headD [pL (TblT.cols b),pL (TblT.idxs b)] PV.nilp)) (PV.slL (List.headD [pL (TblT.cols b),pL (TblT.idxs b)] PV.nilp)),PV.sl (PV.slN (List.headD [pL (TblT.idxs b)] PV.nilp)) (PV.slL (List.headD [pL (TblT.idxs b)] PV.nilp))])
theorem js5 (x:NodeT) (b:TblT):q_rn1 brC x b=brC (isTb (zzau0 x b)&&isN (PV.agg [PV.str x.name,PV.sl x.subs.length (List.map PV.str x.subs),PV.str x.value])) (some ((.cv (.pv (.bool !rwN (asTb (zzau0 x b)) (asN (PV.agg [PV.str x.name,PV.sl x.subs.length (List.map PV.str x.subs),PV.str x.value])))),[]))) none:=by kernel_rfl
def zzav0 (t:List NodeT) (b:TblT):=(PV.sl (List.length (asNs (PV.sl (List.length t) (encN t)))) (encN (asNs (PV.sl (List.length t) (encN t)))))
theorem jmS (t:List NodeT) (b:TblT):juC brC t b=brC (Nat.beq t.length 0&&nilB (encN t)) (brC (isTb (PV.agg [PV.str b.name,PV.str b.glob,pL b.cols,pL b.idxs])&&Nat.beq 97 97) (some ((.cv (.pv (.sl 0 [])),[]))) none) (brC (isNs (PV.sl t.length (encN t))&&decide (1<=List.length (asNs (PV.sl t.length (encN t))))) (brC (isNs (zzav0 t b)&&isTb (PV.agg [PV.str b.name,PV.str b.glob,pL b.cols,pL b.idxs])&&Nat.beq 97 97&&Nat.beq 82 82&&decide (goIdR (asNs (zzav0 t b)) (asTb (PV.agg [PV.str b.name,PV.str b.glob,pL b.cols,pL b.idxs]))<List.length (asNs (zzav0 t b)))) (some ((.cv (.pv (.sl (List.length (keepR (asNs (zzav0 t b)) (asTb (PV.agg [PV.str b.name,PV.str b.glob,pL b.cols,pL b.idxs])))) (encN (keepR (asNs (zzav0 t b)) (asTb (PV.agg [PV.str b.name,PV.str b.glob,pL b.cols,pL b.idxs])))))),[]))) (brC (isNs (zzav0 t b)&&isTb (PV.agg [PV.str b.name,PV.str b.glob,pL b.cols,pL b.idxs])&&Nat.beq 97 97&&Nat.beq 82 82) (some ((.cv (.lst 3 82 (List.length (asNs (PV.sl t.length (encN t)))) (encN (asNs (PV.sl t.length (encN t)))) true),[]))) none)) none):=by kernel_rfl
end
section
open Go.RowKit Go.Lib
theorem jlA (a:Option Addr) (n c:Nat) (w:World):(binOp .eql 36 (.slice a n c) (.slice none 0 0)).run Tryz.prog w=.ok (.bool a.isNone) w:=by
 simp only [binOp]
 simp [run_equal_slice_nil (P:=Tryz.prog) w 36 82 a n c Tryz.underlying36]
set_option maxHeartbeats 2000000 in
set_option maxRecDepth 100000 in
theorem jsX (c:Nat) (w:World):Calls Tryz.prog 96 #[.slice none 0 c] w fun e w'=>∃ a' c',e=.returned (.slice a' 0 c')/\Below w.heap.size w w':=by
 go_enter Tryz.func96, Tryz.ntmps96
 go_wp2
 rw [jlA]
 go_wp2
 go_ret
 exact ⟨_,_,rfl,Below.refl _ _⟩
set_option maxHeartbeats 2000000 in
set_option maxRecDepth 100000 in
theorem jp0 (a:Addr) (c:Nat) (w:World):Calls Tryz.prog 96 #[.slice (some a) 0 c] w fun e w'=>∃ a' c',e=.returned (.slice a' 0 c')/\Below w.heap.size w w':=by
 go_enter Tryz.func96, Tryz.ntmps96
 go_wp2
 rw [jlA]
 go_wp2
 go_ret
 exact ⟨_,_,rfl,Below.alloc (B:=w.heap.size) (a:=w) (w:=w) (Below.refl _ _) (Nat.le_refl _) _⟩
end
section
open Go.RowKit
theorem jky {a b c:ByteArray} (h:strLt a b=true) (k:strLt b c=true):strLt a c=true:=by
 unfold strLt at h k ⊢
 rw [jcv] at h k ⊢
 exact jeL h k
theorem jlh {a b c:ByteArray} {x y z:List ByteArray} (h:locLt a x b y=true) (k:locLt b y c z=true):locLt a x c z=true:=by
 unfold locLt at h k ⊢
 rw [Bool.or_eq_true,nqE] at h k ⊢
 rcases h with h | ⟨h,h'⟩
 .rcases k with k | ⟨k,k'⟩
  .exact .inl (jky h k)
  .obtain rfl:=jbP.1 k
   exact .inl h
 .obtain rfl:=jbP.1 h
  rcases k with k | ⟨k,k'⟩
  .exact .inl k
  .exact .inr ⟨k,jes h' k'⟩
theorem jjX:∀ (t:List NodeT) (p:Option NodeT),jce p t=true->(∀ x∈t,nodeB x=true)/\t.Pairwise (fun x y=>jjx x y=true)/\∀ y,p=some y->∀ x∈t,jjx y x=true
 | [],_,_=>⟨fun x h=>(List.not_mem_nil h).elim,.nil,fun y _ x h=>(List.not_mem_nil h).elim⟩
 | x::t,p,h=>by
  unfold jce at h
  rw [nqE,nqE] at h
  obtain ⟨⟨h1,h2⟩,h3⟩:=h
  obtain ⟨i1,i2,i3⟩:=jjX t (some x) h3
  refine ⟨fun y hy=>?_,List.pairwise_cons.2 ⟨i3 x rfl,i2⟩,fun y hy z hz=>?_⟩
  .rcases List.mem_cons.1 hy with rfl | hy
   .exact h1
   .exact i1 y hy
  .subst hy
   rcases List.mem_cons.1 hz with rfl | hz
   .exact h2
   .exact jlh h2 (i3 x rfl z hz)
theorem jrJ {t:List NodeT} (h:treeB t=true):t.length<=120/\(∀ x∈t,nodeB x=true)/\t.Pairwise (fun x y=>jjx x y=true):=by
 unfold treeB at h
 rw [nqE] at h
 obtain ⟨h1,h2,_⟩:=jjX t none h.2
 exact ⟨nqI h.1,h1,h2⟩
def ownB (s:ByteArray) (x:NodeT):Bool:=sEq x.name s&&decide (0<x.subs.length)
end
section
open Go.RowKit
theorem tbI {b:TblT} (h:shTb b):isTb (PV.agg [PV.str b.name,PV.str b.glob,pL b.cols,pL b.idxs])=true:=ja9 h
theorem tbA (b:TblT):asTb (PV.agg [PV.str b.name,PV.str b.glob,pL b.cols,pL b.idxs])=b:=jan b
theorem jb6 {s g:ByteArray} {q r:PV} (h:isTb (.agg [.str s,.str g,q,r])=true):∃ b,s=b.name/\g=b.glob/\q=pL b.cols/\r=pL b.idxs/\shTb b:=by
 obtain ⟨b,e,hb⟩:=jau h
 unfold pTb at e
 injection e with e
 injection e with e1 e
 injection e1 with e1
 injection e with e2 e
 injection e2 with e2
 injection e with e3 e
 injection e with e4 e
 exact ⟨b,e1,e2,e3,e4,hb⟩
theorem brTc {R:Type} (x y:Option R):brC true x y=x:=rfl
theorem brFc {R:Type} (x y:Option R):brC false x y=y:=rfl
theorem jwQ:jab Tryz.prog 98 E_isR:=jac mix (tab:=[]) trivial (lp:=[]) (LO:=LO0) ⟨Tryz.func98,by kernel_rfl,by kernel_rfl⟩ (by kernel_rfl) fun ivs res bxs h=>by
 unfold E_isR at h
 split at h
 .rename_i p q
  obtain ⟨hc,he⟩:=pick1 h
  cases he
  obtain ⟨k0,k1⟩:=andE hc
  obtain ⟨b,rfl,h_b⟩:=jau k0
  obtain ⟨x,rfl,h_x⟩:=jaf k1
  have e_b:asTb (pTb b)=b:=jan b
  have e_x:asN (pN x)=x:=jbC x
  rw [e_b,e_x]
  refine ⟨jap (by kernel_rfl),?_⟩
  have tree:=jti b x
  unfold rwN
  cases h1:(x.name.toList==b.glob.toList) with
  | false=>rw [h1] at tree; exact tree.trans rfl
  | true=>
   rw [h1] at tree
   cases hs:x.subs with
   | nil=>rw [hs] at tree; exact tree.trans rfl
   | cons a t=>
    rw [hs] at tree
    by_cases h2:(a::t).length=2
    .have h3:((((a::t).length:Nat):Int)==2)=true:=by rw [h2]; rfl
     have h4:(0:Int)<(((a::t).length:Nat):Int):=by rw [h2]; decide
     rw [h3,dT h4] at tree
     rw [dT h2]
     exact tree.trans rfl
    .have h3:((((a::t).length:Nat):Int)==2)=false:=beq_eq_false_iff_ne.2 (by omega)
     rw [h3] at tree
     rw [dF h2]
     exact tree.trans rfl
 .cases h
theorem joC:jad Tryz.prog scb1:=⟨jwQ,trivial⟩
theorem jwY:jab Tryz.prog 97 E_rn1:=jac mix joC (lp:=[]) (LO:=LO0) ⟨Tryz.func97,by kernel_rfl,by kernel_rfl⟩ (by kernel_rfl) fun ivs res bxs h=>by
 unfold E_rn1 at h
 split at h
 .rename_i p s g q r
  obtain ⟨hc,he⟩:=pick1 h
  cases he
  obtain ⟨k0,k1⟩:=andE hc
  obtain ⟨x,rfl,h_x⟩:=jaf k0
  obtain ⟨b,rfl,rfl,rfl,rfl,h_b⟩:=jb6 k1
  have e_x:asN (pN x)=x:=jbC x
  rw [tbA,e_x]
  refine ⟨jap (by kernel_rfl),?_⟩
  have tree:=js5 x b
  revert tree; try delta zzau0; intro tree
  have i1:=ja9 h_b
  have a1:=jan b
  have i2:=jfF h_x
  simp only [List.headD_cons,List.tail_cons,List.drop_succ_cons,List.drop_zero,PV.isStr,PV.asStr,PV.isSl,PV.slN,PV.slL,isTb,asTb,i1,a1,isN,i2,jbC,Bool.and_true,Bool.true_and] at tree
  exact tree.trans rfl
 .cases h
theorem jpr:jad Tryz.prog scb2:=⟨jwY,joC⟩
theorem jrv (b:TblT):goIdR [] b=0:=rfl
theorem jhN {x:NodeT} {t:List NodeT} {b:TblT} (h:noR b x=true):goIdR (x::t) b=0:=by
 unfold goIdR
 rw [List.takeWhile_cons,h]
 rfl
theorem jfw {x:NodeT} {t:List NodeT} {b:TblT} (h:noR b x=false):goIdR (x::t) b=goIdR t b+1:=by
 unfold goIdR
 rw [List.takeWhile_cons,h]
 rfl
theorem jp3 (t:List NodeT) (h:shT t) (b:TblT) (hx:shTb b):∀ (m i:Nat),m+i=t.length->LoopsTo (rdB brC Tryz.prog scb2 jil jfU Tryz.f120 2 []) [aP (pNs t),aP (rcl b),aI t.length,aI i]
  (if goIdR (t.drop i) b+i<t.length then (.ret,[aI ((goIdR (t.drop i) b+i:Nat):Int)]) else (.exit 0,[aX])):=by
 have hl:=h.1
 intro m
 induction m with
 | zero=>
  intro i hm
  obtain rfl:i=t.length:=by omega
  rw [List.drop_length,jrv,if_neg (by omega)]
  refine .done _ _ ((jjJ t b t.length).trans ?_)
  rw [dF (by omega)]
  rfl
 | succ m ih=>
  intro i hm
  have hi:i<t.length:=by omega
  have hs:=jeR h hi
  have ih':=ih (i+1) (by omega)
  have tree:=jjJ t b i
  have e2:=ja9 hx
  have e3:=jan b
  simp (disch:=omega) only [dT,nqF,jaQ t i hi,nqH,List.headD_cons,List.tail_cons,PV.isStr,PV.asStr,PV.isSl,PV.slN,PV.slL,ble3,wrap1,Bool.and_true,jfF hs,jbC,e2,e3] at tree
  rw [nqK hi]
  cases hin:noR b t[i] with
  | true=>
   rw [hin] at tree
   rw [jhN hin,Nat.zero_add,if_pos hi]
   exact .done _ _ tree
  | false=>
   rw [hin] at tree
   rw [jfw hin]
   have e:goIdR (t.drop (i+1)) b+(i+1)=goIdR (t.drop (i+1)) b+1+i:=by omega
   rw [e] at ih'
   exact .step _ _ _ tree ih'
theorem juJ:jab Tryz.prog 120 E_IdxR:=jac mix jpr (lp:=jil) (LO:=jfU) ⟨Tryz.func120,by kernel_rfl,by kernel_rfl⟩ (by kernel_rfl) fun ivs res bxs h=>by
 unfold E_IdxR at h
 split at h
 .rename_i p f s g q r
  obtain ⟨hc,he⟩:=pick1 h
  cases he
  simp only [nqE] at hc
  obtain ⟨⟨h1,h2⟩,h3⟩:=hc
  obtain ⟨t,rfl,ht⟩:=jaf h1
  obtain ⟨b,rfl,rfl,rfl,rfl,hx⟩:=jb6 h2
  obtain rfl:=nqB h3
  refine ⟨jaq 2 (by kernel_rfl) (by kernel_rfl) (by kernel_rfl) ?_,(joZ t b).trans ?_⟩
  .intro ls e ls' hl
   unfold jfU at hl
   split at hl
   .rename_i p f s g q r n i
    cases hg:(isNs p&&isTb (.agg [.str s,.str g,q,r])&&Nat.beq f 97&&(n==((asNs p).length:Int))&&(i==0)) with
    | false=>rw [hg] at hl; simp only [pickA,Bool.false_and,cond_false] at hl; cases hl
    | true=>
     rw [hg,Bool.true_and] at hl
     simp only [nqE,beq_iff_eq] at hg
     obtain ⟨⟨⟨⟨g1,g2⟩,g3⟩,g4⟩,g5⟩:=hg
     obtain ⟨u,rfl,hu⟩:=jaf g1
     obtain ⟨b,rfl,rfl,rfl,rfl,hy⟩:=jb6 g2
     simp only [jav,tbA] at hl g4
     rw [nqB g3,g4,g5]
     have:=jp3 u hu b hy u.length 0 (by omega)
     rw [List.drop_zero,Nat.add_zero] at this
     by_cases hlt:goIdR u b<u.length
     .rw [dT hlt] at hl
      rw [if_pos hlt] at this
      cases hl
      exact this
     .rw [dF hlt] at hl
      rw [if_neg hlt] at this
      cases hl
      exact this
   .cases hl
  .simp only [jby ht,tbI hx,tbA,jav,beq_self_eq_true,Bool.and_true,Bool.true_and,Nat.beq_refl]
   by_cases hlt:goIdR t b<t.length
   .rw [dT hlt,if_pos hlt]
    rfl
   .rw [dF hlt,if_neg hlt]
    rfl
 .cases h
theorem jpx:jad Tryz.prog scb3:=⟨juJ,jpr⟩
theorem jdZ (t:List NodeT) (b:TblT):(keepR t b).length<=t.length:=List.length_filter_le _ _
theorem jdX (t u:List NodeT) (b:TblT):keepR (t++u) b=keepR t b++keepR u b:=List.filter_append t u
theorem jcz (x:NodeT) (b:TblT):keepR [x] b=if (!noR b x)=true then [x] else []:=by
 unfold keepR
 rw [List.filter_cons]
 rfl
theorem jmb (b:TblT):∀ t:List NodeT,goIdR t b<t.length->keepR (t.take (goIdR t b+1)) b=t.take (goIdR t b)
 | [],h=>by simp at h
 | x::t,h=>by
  cases hin:noR b x with
  | true=>
   rw [jhN hin,Nat.zero_add,List.take_succ_cons,List.take_zero,List.take_zero,jcz,hin]
   rfl
  | false=>
   rw [jfw hin] at h ⊢
   have ih:=jmb b t (by simpa using h)
   rw [List.take_succ_cons,List.take_succ_cons,<- ih]
   show keepR ([x]++_) b=_
   rw [jdX,jcz,hin]
   rfl
theorem jl1 (b:TblT):∀ t:List NodeT,¬ goIdR t b<t.length->keepR t b=t
 | [],h=>rfl
 | x::t,h=>by
  cases hin:noR b x with
  | true=>rw [jhN hin] at h; simp at h
  | false=>
   rw [jfw hin] at h
   have ih:=jl1 b t (by simpa using h)
   show keepR ([x]++t) b=_
   rw [jdX,jcz,hin,ih]
   rfl
def delR (t:List NodeT) (b:TblT) (j:Nat):List NodeT:=keepR (t.take j) b++t.drop (keepR (t.take j) b).length
theorem jcu (t:List NodeT) (b:TblT) (j:Nat):(keepR (t.take j) b).length<=j/\(keepR (t.take j) b).length<=t.length:=by
 have:=jdZ (t.take j) b
 rw [List.length_take] at this
 omega
theorem jdL (t:List NodeT) (b:TblT) (j:Nat):(delR t b j).length=t.length:=by
 unfold delR
 have:=jcu t b j
 rw [nqG,List.length_drop]
 omega
theorem jqk (t:List NodeT) (b:TblT) (j:Nat):(delR t b j).drop j=t.drop j:=by
 unfold delR
 have:=jcu t b j
 rw [List.drop_append,List.drop_eq_nil_of_le this.1,List.nil_append,List.drop_drop]
 congr 1
 omega
theorem jpM (t:List NodeT) (h:shT t) (b:TblT) (hx:shTb b):∀ (m j:Nat),m+j=t.length->LoopsTo (rdB brC Tryz.prog scb3 jek jdq Tryz.f95 5 [])
  [aM 0 3 82 (delR t b j).length (encN (delR t b j)),aP (rcl b),aI (keepR (t.take j) b).length,aI j] (.exit 0,[aM 0 3 82 t.length (encN (keepR t b++t.drop (keepR t b).length)),aI (keepR t b).length]):=by
 have hl:=h.1
 intro m
 induction m with
 | zero=>
  intro j hm
  obtain rfl:j=t.length:=by omega
  refine .done _ _ ((jj5 (delR t b t.length) b (keepR (t.take t.length) b).length t.length).trans ?_)
  rw [dF (by rw [jdL]; omega),jdL]
  unfold delR
  rw [List.take_length]
  rfl
 | succ m ih=>
  intro j hm
  have hj:j<t.length:=by omega
  have hs:=jeR h hj
  have hkl:=jcu t b j
  have hul:=jdL t b j
  have hud:=jqk t b j
  have ek:keepR (t.take (j+1)) b=keepR (t.take j) b++(if (!noR b t[j])=true then [t[j]] else []):=by
   rw [List.take_succ_eq_append_getElem hj,jdX,jcz]
  have hdrop:(encN (delR t b j)).drop (j*3)=.str t[j].name::.sl t[j].subs.length (t[j].subs.map PV.str)::.str t[j].value::encN (t.drop (j+1)):=by
   rw [ji9,hud,nqK hj]
   rfl
  have hel:=jcp (delR t b j)
  have b1:Nat.ble (j*3) (encN (delR t b j)).length=true:=Nat.ble_eq_true_of_le (by omega)
  have b2:Nat.ble ((keepR (t.take j) b).length*3+3) (encN (delR t b j)).length=true:=Nat.ble_eq_true_of_le (by omega)
  have b3:∀ (x y z:PV),Nat.beq (List.length [x,y,z]) 3=true:=fun _ _ _=>rfl
  have e2:=ja9 hx
  have e3:=jan b
  have tree:=jj5 (delR t b j) b (keepR (t.take j) b).length j
  simp (disch:=omega) only [dT,nqF,hdrop,b1,b2,b3,nqH,List.headD_cons,List.tail_cons,PV.isStr,PV.asStr,PV.isSl,PV.slN,PV.slL,ble3,wrap1,Bool.and_true,Bool.true_and,jfF hs,jbC,e2,e3] at tree
  cases hin:noR b t[j] with
  | true=>
   rw [hin] at tree ek
   simp only [Bool.not_true,if_neg Bool.false_ne_true,List.append_nil] at ek
   have ih':=ih (j+1) (by omega)
   have eu:delR t b (j+1)=delR t b j:=by unfold delR; rw [ek]
   rw [eu,ek] at ih'
   exact .step _ _ _ tree ih'
  | false=>
   rw [hin] at tree ek
   simp only [Bool.not_false,if_pos] at ek
   have ih':=ih (j+1) (by omega)
   have eu:encN (delR t b (j+1))=List.take ((keepR (t.take j) b).length*3) (encN (delR t b j))++[PV.str t[j].name,PV.sl t[j].subs.length (t[j].subs.map PV.str),PV.str t[j].value]++List.drop ((keepR (t.take j) b).length*3+3) (encN (delR t b j)):=by
    rw [jjr,show (keepR (t.take j) b).length*3+3=((keepR (t.take j) b).length+1)*3 by omega,ji9]
    unfold delR
    rw [ek]
    generalize keepR (t.take j) b=K
    have d1:(K++t.drop K.length).drop (K.length+1)=t.drop (K.length+1):=by
     rw [List.drop_append,List.drop_eq_nil_of_le (Nat.le_succ _),List.nil_append,List.drop_drop]
     congr 1
     omega
    rw [d1,List.take_left,jdS,jdS,nqG,List.length_singleton]
    rfl
   have hl2:(delR t b (j+1)).length=(delR t b j).length:=by rw [jdL,jdL]
   have hk2:((keepR (t.take (j+1)) b).length:Int)=(((keepR (t.take j) b).length+1:Nat):Int):=by rw [ek,nqG,List.length_singleton]
   rw [eu,hl2,hk2] at ih'
   exact .step _ _ _ tree ih'
theorem jvx:jab Tryz.prog 95 E_DelR:=jac mix jpx (lp:=jek) (LO:=jdq) ⟨Tryz.func95,by kernel_rfl,by kernel_rfl⟩ (by kernel_rfl) fun ivs res bxs h=>by
 have loops:∀ ivs:List IV,(∀ b∈jas (jaW Tryz.f95),ja0 Tryz.prog (tabL scb3) (OL jek) Tryz.f95.ntmps (pbOf []) jdq b):=fun _=>by
  refine jaq 5 (by kernel_rfl) (by kernel_rfl) (by kernel_rfl) ?_
  intro ls e ls' hl
  unfold jdq at hl
  split at hl
  .rename_i x e n l f s g q r i j
   obtain ⟨hc,he⟩:=pick1 hl
   cases he
   simp only [nqE,beq_iff_eq,decide_eq_true_eq] at hc
   obtain ⟨⟨⟨⟨⟨⟨⟨g1,g2⟩,g3⟩,g4⟩,g5⟩,g6⟩,g7⟩,g8⟩:=hc
   obtain ⟨t,ht',ht⟩:=jaf g1
   obtain ⟨b,rfl,rfl,rfl,rfl,hy⟩:=jb6 g2
   rw [ht'] at g6 g7 g8 ⊢
   injection ht' with hn hll
   subst hn
   subst hll
   simp only [jav,tbA] at g6 g7 g8 ⊢
   rw [nqB g3,nqB g4,nqB g5,g6,g7]
   have hk:=jmb b t g8
   have hkl:(keepR (t.take (goIdR t b+1)) b).length=goIdR t b:=by rw [hk,List.length_take]; omega
   have:=jpM t ht b hy (t.length-(goIdR t b+1)) (goIdR t b+1) (by omega)
   have eu:delR t b (goIdR t b+1)=t:=by
    unfold delR
    rw [hkl,hk,List.take_append_drop]
   rw [eu,hkl] at this
   exact this
  .cases hl
 unfold E_DelR at h
 split at h
 .rename_i e n l f s g q r
  cases hg:(isNs (.sl n l)&&isTb (.agg [.str s,.str g,q,r])&&Nat.beq f 97&&Nat.beq e 82) with
  | false=>rw [hg] at h; simp only [pickA,Bool.false_and,cond_false] at h; cases h
  | true=>
   rw [hg,Bool.true_and] at h
   simp only [nqE] at hg
   obtain ⟨⟨⟨g1,g2⟩,g3⟩,g4⟩:=hg
   obtain ⟨t,ht',ht⟩:=jaf g1
   obtain ⟨b,rfl,rfl,rfl,rfl,hy⟩:=jb6 g2
   rw [ht'] at h
   injection ht' with hn hl
   subst hn
   subst hl
   simp only [jav,tbA] at h
   rw [nqB g3,nqB g4]
   refine ⟨loops [],(jpB t b).trans ?_⟩
   try delta zzat1
   try delta zzat0
   have hlen:=ht.1
   have hkl:=jdZ t b
   have e1:=jby ht
   have e2:=tbI hy
   have e3:=tbA b
   simp only [isNs,e1,e2,e3,jav]
   by_cases hlt:goIdR t b<t.length
   .rw [dT hlt] at h
    cases h
    rw [if_pos hlt]
    have n1:((goIdR t b:Int) == -1)=false:=by simp
    have n2:(IntKind.wrap .i64 ((goIdR t b:Int)+1)==(goIdR t b:Int)+1)=true:=by rw [wrap1 (by omega)]; simp
    have er:PV.sl (Int.toNat ((keepR t b).length:Int)-0) (List.take ((Int.toNat ((keepR t b).length:Int)-0)*3) (List.drop (0*3) (List.take (Int.toNat ((keepR t b).length:Int)*3) (encN (keepR t b++List.drop (keepR t b).length t))++List.flatten (List.replicate (t.length-Int.toNat ((keepR t b).length:Int)) [PV.str { data:=#[] },PV.nils,PV.str { data:=#[] }]))))=pNs (keepR t b):=by
     rw [nqF,Nat.sub_zero,Nat.zero_mul,List.drop_zero,jjr,List.take_left,List.take_append_of_le_length (by rw [jcp]; exact Nat.le_refl _),List.take_of_length_le (by rw [jcp]; exact Nat.le_refl _)]
    rw [n1,n2,er]
    simp (disch:=omega) only [dT,hlt,beq_self_eq_true,Nat.beq_refl,Bool.and_true,Bool.true_and]
    rfl
   .rw [dF hlt] at h
    cases h
    rw [if_neg hlt]
    rfl
 .rename_i f s g q r
  obtain ⟨hc,he⟩:=pick1 h
  cases he
  rw [nqE] at hc
  obtain ⟨b,rfl,rfl,rfl,rfl,hy⟩:=jb6 hc.1
  rw [nqB hc.2]
  refine ⟨loops [],(jnL b).trans ?_⟩
  have e1:isNs (.sl 0 [])=true:=jby (t:=[]) ⟨Nat.zero_le _,fun _ h=>by cases h⟩
  have e2:asNs (.sl 0 [])=[]:=jav []
  rw [e1,e2,tbI hy]
  rfl
 .cases h
theorem jml:jab Tryz.prog 96 E_CloN1:=jac mix (tab:=[]) trivial (lp:=[(1000000,[5,7],[])]) (LO:=LO0) ⟨Tryz.func96,by kernel_rfl,by kernel_rfl⟩ (by kernel_rfl) fun ivs res bxs h=>by
 unfold E_CloN1 at h
 split at h
 .rename_i p
  obtain ⟨hc,he⟩:=pick1 h
  cases he
  obtain ⟨k0,k1⟩:=andE hc
  obtain ⟨t,rfl,ht⟩:=jaf k0
  have e1:asNs (pNs t)=t:=jav t
  have h2:=nqI k1
  rw [e1] at h2 ⊢
  have hl:=ht.1
  cases t with
  | nil=>simp at h2
  | cons x t=>
   have tree:=jqM x t
   rw [nqH] at hl
   have b1:Nat.beq (PV.str x.name::PV.sl x.subs.length (x.subs.map PV.str)::PV.str x.value::encN t).length ((t.length+1)*3)=true:=by
    rw [show (PV.str x.name::PV.sl x.subs.length (x.subs.map PV.str)::PV.str x.value::encN t)=encN (x::t) from rfl,jcp,nqH,Nat.beq_refl]
   rw [b1,dT (show 0+(t.length+1)<=140737488351232 by omega),dT (show (0+(t.length+1))*56<=140737488355328 by omega),Nat.zero_add] at tree
   exact ⟨jap (by kernel_rfl),tree⟩
 .cases h
theorem jsd:jab Tryz.prog 96 E_CloN0:=⟨jml.1,fun ivs res bxs h=>by
 unfold E_CloN0 at h
 split at h
 .rename_i n l
  obtain ⟨hc,he⟩:=pick1 h
  cases he
  obtain ⟨k0,k1⟩:=andE hc
  obtain rfl:=nqB k0
  obtain rfl:=ja2 k1
  refine jeJ (ps:=[.sl 0 []]) (p:=.sl 0 []) fun w com vals hv hfr hgl=>?_
  obtain ⟨v,vs,rfl,hv1,hn⟩:=hv.of_cons
  rw [hn.of_nil]
  have fin:∀ (a:Option Addr) (c:Nat),Calls Tryz.prog 96 #[.slice a 0 c] w fun e w'=>∃ a' c',e=.returned (.slice a' 0 c')/\Below w.heap.size w w':=fun a c=>by
   cases a with
   | none=>exact jsX c w
   | some a=>exact jp0 a c w
  cases hv1 with
  | sl0 a c=>
   refine (fin a c).mono ?_
   rintro e w' ⟨a',c',rfl,hb⟩
   exact ⟨.slice a' 0 c',com,rfl,.sl0 a' c',⟨fun _=>Nat.le_refl _,fun b i hi=>jax.cell_of_block (hb.block b (by
    rcases Nat.lt_or_ge b w.heap.size with h | h
    .exact h
    .rw [hfr b h] at hi; exact absurd hi (Nat.not_lt_zero _)))⟩,fun b hs=>hfr b (Nat.le_trans hb.size hs),fun _ _=>rfl,hb⟩
  | sl b off n cap cs l hn hl h1 hc hm he=>
   refine (fin _ _).mono ?_
   rintro e w' ⟨a',c',rfl,hb⟩
   exact ⟨.slice a' 0 c',com,rfl,.sl0 a' c',⟨fun _=>Nat.le_refl _,fun b i hi=>jax.cell_of_block (hb.block b (by
    rcases Nat.lt_or_ge b w.heap.size with h | h
    .exact h
    .rw [hfr b h] at hi; exact absurd hi (Nat.not_lt_zero _)))⟩,fun b hs=>hfr b (Nat.le_trans hb.size hs),fun _ _=>rfl,hb⟩
 .cases h⟩
theorem juT:jab Tryz.prog 96 E_CloN:=jdN jsd jml
theorem juZ:jad Tryz.prog scb4:=⟨jvx,juT,jpx⟩
theorem jiL {t:List NodeT} {b:TblT} {x:NodeT} (h:x∈keepR t b):x∈t/\rwN b x=true:=by
 unfold keepR at h
 rw [List.mem_filter] at h
 refine ⟨h.1,?_⟩
 have:=h.2
 unfold noR at this
 cases hr:rwN b x <;> rw [hr] at this <;> first | rfl | cases this
theorem jlH {t:List NodeT} (h:shT t) (b:TblT):shT (keepR t b):=⟨Nat.le_trans (jdZ t b) h.1,fun x hx=>h.2 x (jiL hx).1⟩
theorem jr1:jab Tryz.prog 69 E_rowNs:=jca mix juZ (lp:=[(1000001,[144],[])]) (LO:=LO0) ⟨Tryz.func69,by kernel_rfl,by kernel_rfl⟩ (by kernel_rfl) fun ivs res bxs h=>by
 unfold E_rowNs at h
 split at h
 .rename_i p q
  obtain ⟨hc,he⟩:=pick1 h
  cases he
  obtain ⟨k0,k1⟩:=andE hc
  obtain ⟨t,rfl,h_t⟩:=jaf k0
  obtain ⟨b,rfl,h_b⟩:=jau k1
  have e_t:asT (pT t)=t:=jbd t
  have e_b:asTb (pTb b)=b:=jan b
  rw [e_t,e_b]
  have tree:=jmS t b
  revert tree; try delta zzav0; intro tree
  have i1:isNs (PV.sl t.length (encN t))=true:=jba (enc:=pNs) h_t
  have a1:asNs (PV.sl t.length (encN t))=t:=jav t
  rw [tbI h_b,i1,a1,i1,a1,tbA] at tree
  cases t with
  | nil=>
   refine ⟨jap (by kernel_rfl),_,tree.trans (by rw [show encN []=[] from rfl,jbU]; rfl),rfl,rfl⟩
  | cons x t=>
   have hz:Nat.beq (x::t).length 0=false:=rfl
   rw [hz,Bool.false_and,brFc,dT (show 1<=(x::t).length by rw [nqH]; omega)] at tree
   by_cases hg:goIdR (x::t) b<(x::t).length
   .rw [dT hg] at tree
    exact ⟨jap (by kernel_rfl),_,tree,rfl,rfl⟩
   .rw [dF hg] at tree
    refine ⟨jap (by kernel_rfl),_,tree,rfl,?_⟩
    rw [jl1 b _ hg]
    rfl
 .cases h
theorem juq:jab Tryz.prog 70 E_unpM:=jac mix jvu (lp:=[(1000000,[10,20],[23,27,33]),(2000016,[8,0,17],[])]) (LO:=LO0) ⟨Tryz.func70,by kernel_rfl,by kernel_rfl⟩ (by kernel_rfl) fun ivs res bxs h=>by
 unfold E_unpM at h
 split at h
 .rename_i p k v
  have key:∀ b,shTb b->k.size<=50000->v.size<=50000->tblB b=true->jtz brC b k v=if unpB b k v=true then some (.tup [.agg [.lst 1 9 (jaX b k v).length ((jaX b k v).map .str) true],cI 0],[]) else some (.tup [.agg [.pv .nils],cI 14],[]):=fun b hb hk hv hB=>by
   have tree:=jo1 b k v
   revert tree; try delta zzar1; intro tree
   revert tree; try delta zzar0; intro tree
   obtain ⟨c1,c5⟩:=jd1 hB
   have hsh:=jph hv
   have hpk:=jm1 b k v
   have fin:∀ cs:List ByteArray,jaX b k v=cs->shL cs->∀ X:Option (IV×List (List CV)),X=brC (isTb (PV.agg [PV.str b.name,PV.str b.glob,PV.sl b.cols.length (b.cols.map PV.str),PV.sl b.idxs.length (b.idxs.map PV.str)])&&isRw (PV.agg [PV.sl cs.length (cs.map .str)])&&decide (1<=(asTb (PV.agg [PV.str b.name,PV.str b.glob,PV.sl b.cols.length (b.cols.map PV.str),PV.sl b.idxs.length (b.idxs.map PV.str)])).cols.length))
     (brC (!rowB (asTb (PV.agg [PV.str b.name,PV.str b.glob,PV.sl b.cols.length (b.cols.map PV.str),PV.sl b.idxs.length (b.idxs.map PV.str)])) (asRw (PV.agg [PV.sl cs.length (cs.map .str)])))
      (some (.tup [.agg [.pv .nils],cI 14],[]))
      (brC (isRw (PV.agg [PV.sl cs.length (cs.map .str)])&&decide (1<=(asRw (PV.agg [PV.sl cs.length (cs.map .str)])).length)&&decide ((packL (asRw (PV.agg [PV.sl cs.length (cs.map .str)]))).length<=1048576))
       (brC (!(ByteArray.toList (bs (packL (asRw (PV.agg [PV.sl cs.length (cs.map .str)]))))==ByteArray.toList v))
        (some (.tup [.agg [.pv .nils],cI 14],[]))
        (some (.tup [.agg [.lst 1 9 cs.length (cs.map .str) true],cI 0],[])))
       none))
     none->X=if unpB b k v=true then some (.tup [.agg [.lst 1 9 (jaX b k v).length ((jaX b k v).map .str) true],cI 0],[]) else some (.tup [.agg [.pv .nils],cI 14],[]):=fun cs hcs hsc X hX=>by
    rw [hX]
    have f1:isTb (PV.agg [PV.str b.name,PV.str b.glob,PV.sl b.cols.length (b.cols.map PV.str),PV.sl b.idxs.length (b.idxs.map PV.str)])=true:=ja9 hb
    have f2:isRw (PV.agg [PV.sl cs.length (cs.map .str)])=true:=jkR hsc
    have f3:asTb (PV.agg [PV.str b.name,PV.str b.glob,PV.sl b.cols.length (b.cols.map PV.str),PV.sl b.idxs.length (b.idxs.map PV.str)])=b:=jan b
    have f4:asRw (PV.agg [PV.sl cs.length (cs.map .str)])=cs:=jbz cs
    rw [f1,f2,f3,f4,dT c1]
    unfold unpB
    rw [hcs] at hpk ⊢
    cases hR:rowB b cs with
    | false=>rfl
    | true=>
     obtain ⟨g1,g2⟩:=jr5 hB hR
     rw [dT g1,dT (show (packL cs).length<=1048576 by omega)]
     have e:(ByteArray.toList (bs (packL cs))==ByteArray.toList v)=(decide (1<b.cols.length)||v.data.toList.isEmpty):=by
      rw [jri,ByteArray.toList_eq,Bool.eq_iff_iff,beq_iff_eq]
      exact hpk
     rw [e]
     cases (decide (1<b.cols.length)||v.data.toList.isEmpty) <;> rfl
   by_cases h1:1<b.cols.length
   .have hcs:jaX b k v=k::cutV v:=by rw [jbw,if_pos h1]
    have hsc:shL (k::cutV v):=⟨by
     have h4:=(jd3 (datas (cutV v))).1
     rw [(jcg v).1,List.length_map] at h4
     have hq:v.data.toList.length=v.size:=by rw [Array.length_toList]; rfl
     rw [nqH]
     omega,fun u hu=>by
     rcases List.mem_cons.1 hu with rfl | hu
     .omega
     .exact hsh.2 u hu⟩
    have hl:=hsh.1
    have hcar:holds (jkw ⟨#[94]⟩)=true:=jaj rfl
    have b1:Nat.beq ((cutV v).map PV.str).length ((cutV v).length*1)=true:=by rw [List.length_map,Nat.mul_one]; exact Nat.beq_refl _
    rw [dT (show (b.cols.length:Int)>1 by omega),hcar,b1,dT (show v.size<=1048576 by omega),dT (show 1+(cutV v).length<=140737488351232 by omega),dT (show (1+(cutV v).length)*16<=140737488355328 by omega),Nat.add_comm 1] at tree
    exact fin _ hcs hsc _ (tree.trans rfl)
   .have hcs:jaX b k v=[k]:=by rw [jbw,if_neg h1]
    have hsc:shL [k]:=⟨by simp,fun u hu=>by rw [List.mem_singleton.1 hu]; omega⟩
    rw [dF (show ¬ (b.cols.length:Int)>1 by omega)] at tree
    exact fin _ hcs hsc _ (tree.trans rfl)
  refine ⟨jap (by kernel_rfl),?_⟩
  rcases pick2 h with ⟨hc,he⟩ | ⟨hc1,hc,he⟩
  .cases he
   simp only [nqE,decide_eq_true_eq] at hc
   obtain ⟨⟨⟨⟨h1,h2⟩,h3⟩,h4⟩,h5⟩:=hc
   obtain ⟨b,rfl,hb⟩:=jau h1
   have e4:asTb (pTb b)=b:=jan b
   rw [e4] at h4 h5 ⊢
   exact (key b hb h2 h3 h4).trans (by rw [if_pos h5])
  .cases he
   simp only [nqE,decide_eq_true_eq] at hc
   obtain ⟨⟨⟨h1,h2⟩,h3⟩,h4⟩:=hc
   obtain ⟨b,rfl,hb⟩:=jau h1
   have e4:asTb (pTb b)=b:=jan b
   rw [h1,dT h2,dT h3,e4] at hc1
   rw [e4] at h4
   rw [h4] at hc1
   exact (key b hb h2 h3 h4).trans (by rw [if_neg (by rw [show unpB b k v=false from hc1]; exact Bool.false_ne_true)])
 .cases h
theorem jvJ:jad Tryz.prog scb5:=⟨jr1,juq,trivial⟩
theorem jhH {l:List NodeT} (h:nodR l=true) {i:Nat} (hi:i<l.length):∃ a c,l[i].subs=[a,c]/\c.size<=24/\l[i].value.size<=64:=by
 have:=List.all_eq_true.1 h _ (List.getElem_mem hi)
 obtain ⟨h1,h2⟩:=andE this
 obtain ⟨h2,h3⟩:=andE h2
 have h1:=nqI h1
 have h2:=nqI h2
 have h3:=nqI h3
 match hs:l[i].subs,h1 with
 | [a,c],_=>
  rw [hs] at h2
  exact ⟨a,c,rfl,h2,h3⟩
theorem jm8 (x:NodeT) (l:List NodeT) (b:TblT) (k:ByteArray):rowOf (x::l) b k=if isK k x=true then (bif unpB b k x.value then (0,jaX b k x.value) else (14,[])) else rowOf l b k:=by
 unfold rowOf findR
 rw [List.find?_cons]
 cases isK k x <;> rfl
theorem joJ (b:TblT) (k:ByteArray):rowOf [] b k=(3,[]):=rfl
theorem jnT (l:List NodeT) (b:TblT) (k:ByteArray):(rowOf l b k).1=0\/(rowOf l b k).1=14\/(rowOf l b k).1=3:=by
 unfold rowOf
 split
 .exact .inr (.inr rfl)
 .rename_i x _
  cases unpB b k x.value
  .exact .inr (.inl rfl)
  .exact .inl rfl
theorem jnh (k:ByteArray) (b:TblT) (hb:shTb b) (hB:tblB b=true) (l:List NodeT) (h:shT l) (hn:nodR l=true):∀ (m i:Nat),m+i=l.length ->
  LoopsTo (rdB brC Tryz.prog scb5 jc0 jc1 Tryz.f37 2 []) [aS k,bxTb 4 b,aBx 6 [.pv .nils],aP (pNs l),aI l.length,aI i]
   (if (rowOf (l.drop i) b k).1=0 then (.ret,[aBx 6 [rwC (rowOf (l.drop i) b k).2],aI 0]) else if (rowOf (l.drop i) b k).1=14 then (.ret,[aBx 6 [.pv .nils],aI 14]) else (.exit 0,[aBx 6 [.pv .nils],aX])):=by
 intro m
 induction m with
 | zero=>
  intro i hm
  rw [List.drop_eq_nil_of_le (show l.length<=i by omega),joJ,if_neg (by decide),if_neg (by decide)]
  refine .done _ _ ((jg3 k b l i).trans ?_)
  try delta zzaq0
  rw [dF (by omega)]
  rfl
 | succ m ih=>
  intro i hm
  have hi:i<l.length:=by omega
  have hl:=h.1
  obtain ⟨a,c,hs,hc,hv⟩:=jhH hn hi
  have tree:=jg3 k b l i
  revert tree; try delta zzaq0; intro tree
  have i1:=ja9 hb
  have a1:=jan b
  simp (disch:=omega) only [dT,nqF,jaQ l i hi,nqH,List.headD_cons,List.tail_cons,PV.isStr,PV.asStr,PV.isSl,PV.slN,PV.slL,ble3,blt0,wrap1,hs,List.map_cons,List.map_nil,List.length_nil,List.drop_succ_cons,List.drop_zero,isTb,asTb,i1,a1,hB,Bool.and_true,Bool.true_and] at tree
  rw [nqK hi,jm8]
  have hk:isK k l[i]=(c.toList==k.toList):=by unfold isK; rw [hs]; rfl
  rw [hk]
  cases hq:(c.toList==k.toList) with
  | false=>
   rw [hq] at tree
   rw [if_neg Bool.false_ne_true]
   exact .step _ _ _ tree (ih (i+1) (by omega))
  | true=>
   rw [hq] at tree
   have hck:c=k:=ByteArray.ext (Array.ext' (by rw [<- ByteArray.toList_eq,<- ByteArray.toList_eq]; exact eq_of_beq hq))
   rw [if_pos rfl]
   rw [dT (show k.size<=50000 by rw [<- hck]; omega)] at tree
   cases hu:unpB b k l[i].value with
   | true=>
    rw [hu] at tree
    rw [cond_true,if_pos rfl]
    exact .done _ _ tree
   | false=>
    rw [hu] at tree
    rw [cond_false,if_neg (by decide),if_pos rfl]
    exact .done _ _ tree
theorem jr0 {α:Type} {c d e:Bool} {r r' r'' q:α} (h:pickA [(c,r),(d,r'),(e,r'')]=some q):(c=true/\r=q)\/(c=false/\d=true/\r'=q)\/(c=false/\d=false/\e=true/\r''=q):=by
 cases c with
 | true=>exact .inl ⟨rfl,by injection h⟩
 | false=>
  cases d with
  | true=>exact .inr (.inl ⟨rfl,rfl,by injection h⟩)
  | false=>
   cases e with
   | true=>exact .inr (.inr ⟨rfl,rfl,rfl,by injection h⟩)
   | false=>cases h
theorem jrz {x:NodeT} (h:nodeB x=true):x.value.size<=64/\∀ s∈x.subs,s.size<=24:=by
 unfold nodeB jde subsB at h
 simp only [nqE,decide_eq_true_eq] at h
 refine ⟨h.2,fun s hs=>?_⟩
 have:=List.all_eq_true.1 h.1.2.2 s hs
 unfold subB at this
 simp only [nqE,decide_eq_true_eq] at this
 exact this.2
theorem jgk {t:List NodeT} (h:treeB t=true) (b:TblT):nodR (keepR t b)=true:=by
 obtain ⟨_,hall,_⟩:=jrJ h
 refine List.all_eq_true.2 fun x hx=>?_
 obtain ⟨hm,hr⟩:=jiL hx
 have hb:=hall x hm
 unfold rwN at hr
 obtain ⟨_,hr⟩:=andE hr
 obtain ⟨h2,_⟩:=andE hr
 have h2:=nqI h2
 have hv:x.value.size<=64/\∀ s∈x.subs,s.size<=24:=jrz hb
 rw [dT h2,dT hv.1,Bool.and_true,Bool.true_and]
 match hs:x.subs,h2 with
 | [a,c],_=>exact dT (hv.2 c (by rw [hs]; simp))
theorem jks:∀ b∈jas (jaW Tryz.f37),ja0 Tryz.prog (tabL scb5) (OL jc0) Tryz.f37.ntmps (pbOf []) jc1 b:=by
 refine jaq 2 (by kernel_rfl) (by kernel_rfl) (by kernel_rfl) ?_
 intro ls e ls' hl
 replace hl:pickA (jeb ls)=some (e,ls'):=hl
 unfold jeb at hl
 split at hl
 .rename_i k x s g q r y p n i
  have key:(isTb (.agg [.str s,.str g,q,r])&&isNs p&&Nat.beq x 16384&&Nat.beq y 24576&&(n==((asNs p).length:Int))&&(i==0)&&nodR (asNs p)&&tblB (asTb (.agg [.str s,.str g,q,r])))=true ->
    LoopsTo (rdB brC Tryz.prog scb5 jc0 jc1 Tryz.f37 2 []) [aS k,((.ptr x 0,some (.box [.pv (.str s),.pv (.str g),.pv q,.pv r])):AV×Option Ob),(.ptr y 0,some (.box [.pv .nils])),aP p,aI n,aI i]
    (if (rowOf (asNs p) (asTb (.agg [.str s,.str g,q,r])) k).1=0 then (.ret,[aBx 6 [rwC (rowOf (asNs p) (asTb (.agg [.str s,.str g,q,r])) k).2],aI 0]) else if (rowOf (asNs p) (asTb (.agg [.str s,.str g,q,r])) k).1=14 then (.ret,[aBx 6 [.pv .nils],aI 14]) else (.exit 0,[aBx 6 [.pv .nils],aX])):=fun hc=>by
   obtain ⟨⟨⟨⟨⟨⟨⟨g0,g1⟩,g2⟩,g3⟩,g4⟩,g5⟩,g6⟩,g7⟩:=andE7 hc
   obtain ⟨b,rfl,rfl,rfl,rfl,h_b⟩:=jb6 g0
   obtain ⟨t,rfl,h_t⟩:=jaf g1
   have e_t:asNs (pNs t)=t:=jav t
   rw [tbA] at g7 ⊢
   rw [e_t] at g4 g6 ⊢
   obtain rfl:=nqB g2
   obtain rfl:=nqB g3
   rw [eq_of_beq g4,eq_of_beq g5]
   exact jnh k b h_b g7 t h_t g6 t.length 0 rfl
  rcases jr0 hl with ⟨hc,he⟩ | ⟨hn,hc,he⟩ | ⟨hn,hn2,hc,he⟩
  .cases he
   obtain ⟨hc,g8⟩:=andE hc
   have:=key hc
   rw [if_pos (eq_of_beq g8)] at this
   exact this
  .cases he
   obtain ⟨hc,g8⟩:=andE hc
   have:=key hc
   rw [if_neg (by rw [eq_of_beq g8]; decide),if_pos (eq_of_beq g8)] at this
   exact this
  .cases he
   have:=key hc
   rw [hc,Bool.true_and,beq_eq_false_iff_ne] at hn hn2
   rw [if_neg hn,if_neg hn2] at this
   exact this
 .cases hl
theorem jhO:jab Tryz.prog 37 E_rowAt:=jac mix jvJ (lp:=jc0) (LO:=jc1) ⟨Tryz.func37,by kernel_rfl,by kernel_rfl⟩ (by kernel_rfl) fun ivs res bxs h=>by
 unfold E_rowAt at h
 split at h
 .rename_i p q k
  have key:∀ t b,shT t->shTb b->treeB t=true->tblB b=true->jpJ brC t b k=some (if (rowOf (keepR t b) b k).1=0 then .tup [.agg [rwC (rowOf (keepR t b) b k).2],cI 0] else .tup [.agg [.pv .nils],cI (rowOf (keepR t b) b k).1],[]):=fun t b ht hb hT hB=>by
   have tree:=jmQ t b k
   revert tree; try delta zzap1; intro tree
   revert tree; try delta zzap0; intro tree
   have i1:=ja9 hb
   have a1:=jan b
   have i2:=jfv ht
   have a2:=jbd t
   have hk:=jlH ht b
   have i3:=jby hk
   have a3:=jav (keepR t b)
   have hN:=jgk hT b
   simp only [isT,asT,isTb,asTb,isNs,asNs,i1,a1,i2,a2,i3,a3,hN,hB,beq_self_eq_true,Nat.beq_refl,Bool.and_true,Bool.true_and] at tree
   rcases jnT (keepR t b) b k with h | h | h <;> rw [h] at tree ⊢ <;> exact tree.trans rfl
  refine ⟨jks,?_⟩
  rcases pick2 h with ⟨hc,he⟩ | ⟨hn,hc,he⟩
  .cases he
   obtain ⟨⟨⟨⟨g0,g1⟩,g2⟩,g3⟩,g4⟩:=andE4 hc
   obtain ⟨t,rfl,h_t⟩:=jaf g0
   obtain ⟨b,rfl,h_b⟩:=jau g1
   have e_t:asT (pT t)=t:=jbd t
   have e_b:asTb (pTb b)=b:=jan b
   rw [e_t,e_b] at g4 ⊢
   rw [e_t] at g2
   rw [e_b] at g3
   refine (key t b h_t h_b g2 g3).trans ?_
   rw [if_pos (eq_of_beq g4)]
  .cases he
   rw [hc,Bool.true_and] at hn
   obtain ⟨⟨⟨g0,g1⟩,g2⟩,g3⟩:=andE3 hc
   obtain ⟨t,rfl,h_t⟩:=jaf g0
   obtain ⟨b,rfl,h_b⟩:=jau g1
   have e_t:asT (pT t)=t:=jbd t
   have e_b:asTb (pTb b)=b:=jan b
   rw [e_t,e_b] at hn ⊢
   rw [e_t] at g2
   rw [e_b] at g3
   refine (key t b h_t h_b g2 g3).trans ?_
   rw [if_neg (beq_eq_false_iff_ne.1 hn)]
 .cases h
theorem js0 (t:List NodeT) (h:shT t) (b:TblT) (hb:shTb b):∀ (m i:Nat),m+i=t.length ->
  LoopsTo (rdB brC Tryz.prog [] jlD jl3 Tryz.f60 3 []) [aBx 2 [.pv (pNs t)],bxTb 3 b,aFn 5 (keepR (t.take i) b),aI i] (.exit 0,[aFn 5 (keepR t b)]):=by
 have hl:=h.1
 intro m
 induction m with
 | zero=>
  intro i hm
  obtain rfl:i=t.length:=by omega
  rw [List.take_length]
  refine .done _ _ ((jlG t b (keepR t b) t.length).trans ?_)
  try delta zzas0
  rw [dF (by omega)]
  rfl
 | succ m ih=>
  intro i hm
  have hi:i<t.length:=by omega
  have ih':=ih (i+1) (by omega)
  have hkl:=jdZ (t.take i) b
  rw [List.length_take] at hkl
  have tree:=jlG t b (keepR (t.take i) b) i
  revert tree; try delta zzas0; intro tree
  have b3:∀ (x y z:PV),Nat.beq (List.length [x,y,z]) (1*3)=true:=fun _ _ _=>rfl
  simp (disch:=omega) only [dT,nqF,jaQ t i hi,b3,nqH,List.headD_cons,List.tail_cons,PV.isStr,PV.asStr,PV.isSl,PV.slN,PV.slL,ble3,wrap1,Bool.and_true,Bool.true_and] at tree
  have ek:keepR (t.take (i+1)) b=keepR (t.take i) b++(if rwN b t[i]=true then [t[i]] else []):=by
   rw [List.take_succ_eq_append_getElem hi,jdX,jcz]
   unfold noR
   rw [Bool.not_not]
  have hskip:rwN b t[i]=false->keepR (t.take (i+1)) b=keepR (t.take i) b:=fun e=>by rw [ek,e,if_neg Bool.false_ne_true,List.append_nil]
  unfold rwN at ek hskip
  cases h1:(t[i].name.toList==b.glob.toList) with
  | false=>
   rw [h1] at tree hskip
   rw [hskip rfl] at ih'
   exact .step _ _ _ tree ih'
  | true=>
   rw [h1] at tree hskip ek
   obtain ⟨u,hs⟩:∃ u,t[i].subs=u:=⟨_,rfl⟩
   rw [hs] at tree hskip ek
   match u with
   | []=>
    rw [hskip rfl] at ih'
    exact .step _ _ _ tree ih'
   | a::l=>
    by_cases h2:(a::l).length=2
    .have h3:((((a::l).length:Nat):Int)==2)=true:=by rw [h2]; rfl
     have h4:(0:Int)<(((a::l).length:Nat):Int):=by rw [h2]; decide
     rw [h3,dT h4] at tree
     rw [dT h2] at hskip ek
     cases h5:(a.toList==[114]) with
     | false=>
      have h5':=h5
      rw [show ((a::l).headD ⟨#[]⟩)=a from rfl,h5] at hskip
      rw [hskip rfl] at ih'
      refine .step _ _ _ (tree.trans ?_) ih'
      show brC true (brC true (brC true (brC (a.toList==[114]) _ _) _) _) _=_
      rw [h5]
      rfl
     | true=>
      rw [show ((a::l).headD ⟨#[]⟩)=a from rfl,h5] at ek
      replace ek:keepR (t.take (i+1)) b=keepR (t.take i) b++[t[i]]:=ek
      rw [ek] at ih'
      unfold aFn at ih'
      rw [jdS,nqG,List.length_singleton,show encN [t[i]]=[PV.str t[i].name,PV.sl (a::l).length ((a::l).map PV.str),PV.str t[i].value] from by
       show [PV.str t[i].name,PV.sl t[i].subs.length (t[i].subs.map PV.str),PV.str t[i].value]=_
       rw [hs]] at ih'
      refine .step _ _ _ (tree.trans ?_) ih'
      show brC true (brC true (brC true (brC (a.toList==[114]) _ _) _) _) _=_
      rw [h5]
      rfl
    .have h3:((((a::l).length:Nat):Int)==2)=false:=beq_eq_false_iff_ne.2 (by omega)
     rw [h3] at tree
     rw [dF h2] at hskip
     rw [hskip rfl] at ih'
     exact .step _ _ _ tree ih'
theorem jw9:jab Tryz.prog 60 E_rowNs:=jca mix (tab:=[]) trivial (lp:=jlD) (LO:=jl3) ⟨Tryz.func60,by kernel_rfl,by kernel_rfl⟩ (by kernel_rfl) fun ivs res bxs h=>by
 unfold E_rowNs at h
 split at h
 .rename_i p q
  obtain ⟨hc,he⟩:=pick1 h
  cases he
  obtain ⟨k0,k1⟩:=andE hc
  obtain ⟨t,rfl,h_t⟩:=jaf k0
  obtain ⟨b,rfl,h_b⟩:=jau k1
  have e_t:asT (pT t)=t:=jbd t
  have e_b:asTb (pTb b)=b:=jan b
  rw [e_t,e_b]
  have tree:=jsv t b
  have i1:isNs (pNs t)=true:=jba (enc:=pNs) h_t
  have a1:asNs (pNs t)=t:=jav t
  rw [tbI h_b,tbA,i1,a1,jbU] at tree
  refine ⟨jaq 3 (by kernel_rfl) (by kernel_rfl) (by kernel_rfl) ?_,_,tree,rfl,rfl⟩
  intro ls e ls' hl
  replace hl:pickA (jhR ls)=some (e,ls'):=hl
  unfold jhR at hl
  split at hl
  .rename_i y p x s g q r z e n l i
   obtain ⟨hc,he⟩:=pick1 hl
   cases he
   obtain ⟨⟨⟨⟨⟨⟨⟨⟨g0,g1⟩,g2⟩,g3⟩,g4⟩,g5⟩,g6⟩,g7⟩,g8⟩:=andE8 hc
   obtain ⟨b,rfl,rfl,rfl,rfl,h_b⟩:=jb6 g0
   obtain ⟨t,rfl,h_t⟩:=jaf g1
   have e_t:asNs (pNs t)=t:=jav t
   obtain rfl:=nqB g2
   obtain rfl:=nqB g3
   obtain rfl:=nqB g4
   obtain rfl:=nqB g5
   obtain rfl:=nqB g6
   obtain rfl:=ja2 g7
   rw [eq_of_beq g8,tbA,e_t]
   have:=js0 t h_t b h_b t.length 0 rfl
   rw [List.take_zero] at this
   exact this
  .cases hl
 .cases h
theorem jlO (x:NodeT) (l:List NodeT) (k:ByteArray):atV (x::l) k=if isK k x=true then 0 else atV l k+1:=by
 unfold atV
 rw [List.takeWhile_cons]
 cases isK k x <;> rfl
theorem jrP (k:ByteArray) (l:List NodeT) (h:shT l) (hn:nodR l=true):∀ (m i:Nat),m+i=l.length ->
  LoopsTo (rdB brC Tryz.prog [] jiX ji6 Tryz.f61 2 []) [aP (pNs l),aS k,aI i] (if atV (l.drop i) k+i<l.length then (.ret,[aI ((atV (l.drop i) k+i:Nat):Int)]) else (.exit 0,[aX])):=by
 intro m
 induction m with
 | zero=>
  intro i hm
  obtain rfl:i=l.length:=by omega
  rw [if_neg (by omega)]
  refine .done _ _ ((jmp l k l.length).trans ?_)
  rw [dF (by omega)]
  rfl
 | succ m ih=>
  intro i hm
  have hi:i<l.length:=by omega
  have hl:=h.1
  obtain ⟨a,c,hs,hc,hv⟩:=jhH hn hi
  have tree:=jmp l k i
  simp (disch:=omega) only [dT,nqF,jaQ l i hi,nqH,List.headD_cons,List.tail_cons,PV.isStr,PV.asStr,PV.isSl,PV.slN,PV.slL,ble3,blt0,wrap1,hs,List.map_cons,List.map_nil,List.length_nil,List.drop_succ_cons,List.drop_zero,Bool.and_true,Bool.true_and] at tree
  rw [nqK hi,jlO]
  have hk:isK k l[i]=(c.toList==k.toList):=by unfold isK; rw [hs]; rfl
  rw [hk]
  cases hq:(c.toList==k.toList) with
  | false=>
   rw [hq] at tree
   rw [if_neg Bool.false_ne_true]
   have:=ih (i+1) (by omega)
   rw [show atV (List.drop (i+1) l) k+(i+1)=atV (List.drop (i+1) l) k+1+i by omega] at this
   exact .step _ _ _ tree this
  | true=>
   rw [hq] at tree
   rw [if_pos rfl,if_pos (by omega),Nat.zero_add]
   exact .done _ _ tree
theorem jvU:jab Tryz.prog 61 E_lat:=jac mix (tab:=[]) trivial (lp:=jiX) (LO:=ji6) ⟨Tryz.func61,by kernel_rfl,by kernel_rfl⟩ (by kernel_rfl) fun ivs res bxs h=>by
 unfold E_lat at h
 split at h
 .rename_i p k
  obtain ⟨hc,he⟩:=pick1 h
  cases he
  obtain ⟨k0,k1⟩:=andE hc
  obtain ⟨l,rfl,h_l⟩:=jaf k0
  have e_l:asNs (pNs l)=l:=jav l
  rw [e_l] at k1 ⊢
  have tree:=jrT l k
  rw [e_l,k0,k1] at tree
  refine ⟨jaq 2 (by kernel_rfl) (by kernel_rfl) (by kernel_rfl) ?_,tree.trans ?_⟩
  .intro ls e ls' hl
   replace hl:pickA (jhI ls)=some (e,ls'):=hl
   unfold jhI at hl
   split at hl
   .rename_i p k i
    have key:(isNs p&&(i==0)&&nodR (asNs p))=true->LoopsTo (rdB brC Tryz.prog [] jiX ji6 Tryz.f61 2 []) [aP p,aS k,aI i] (if atV (asNs p) k<(asNs p).length then (.ret,[aI (atV (asNs p) k)]) else (.exit 0,[aX])):=fun hc=>by
     obtain ⟨⟨g0,g1⟩,g2⟩:=andE2 hc
     obtain ⟨t,rfl,h_t⟩:=jaf g0
     have e_t:asNs (pNs t)=t:=jav t
     rw [e_t] at g2 ⊢
     rw [eq_of_beq g1]
     exact jrP k t h_t g2 t.length 0 rfl
    rcases pick2 hl with ⟨hc,he⟩ | ⟨hn,hc,he⟩
    .cases he
     obtain ⟨hc,g3⟩:=andE hc
     have:=key hc
     rw [if_pos (nqI g3)] at this
     exact this
    .cases he
     have:=key hc
     rw [hc,Bool.true_and,decide_eq_false_iff_not] at hn
     rw [if_neg hn] at this
     exact this
   .cases hl
  .by_cases hlt:atV l k<l.length
   .rw [dT hlt,if_pos hlt]
    rfl
   .rw [dF hlt,if_neg hlt]
    rfl
 .cases h
theorem jvw:jad Tryz.prog scb7:=⟨jw9,jvU,jvy,trivial⟩
theorem jiu:∀ (l:List NodeT) (k:ByteArray),findR l k=l[atV l k]?/\atV l k<=l.length
 | [],k=>⟨rfl,Nat.le_refl _⟩
 | x::l,k=>by
  obtain ⟨h1,h2⟩:=jiu l k
  unfold findR at h1 ⊢
  rw [List.find?_cons,jlO]
  cases hk:isK k x with
  | true=>exact ⟨rfl,Nat.zero_le _⟩
  | false=>
   refine ⟨h1,?_⟩
   rw [if_neg Bool.false_ne_true,nqH]
   omega
theorem jkX (l:List NodeT) (b:TblT) (k:ByteArray):(atV l k<l.length->∃ x,l[atV l k]?=some x/\rowOf l b k=bif unpB b k x.value then (0,jaX b k x.value) else (14,[]))/\(¬ atV l k<l.length->rowOf l b k=(3,[])):=by
 obtain ⟨h1,h2⟩:=jiu l k
 refine ⟨fun h=>?_,fun h=>?_⟩
 .refine ⟨l[atV l k],List.getElem?_eq_getElem h,?_⟩
  unfold rowOf
  rw [h1,List.getElem?_eq_getElem h]
 .unfold rowOf
  rw [h1,List.getElem?_eq_none (by omega)]
theorem jqG (t:List NodeT) (b:TblT) (k:ByteArray) (ht:shT t) (hb:shTb b) (hT:treeB t=true) (hB:tblB b=true):q_lra brC t b k=some (if (rowOf (keepR t b) b k).1=0 then .tup [.agg [.pv (pL (rowOf (keepR t b) b k).2)],cI 0] else .tup [.agg [.pv .nils],cI (rowOf (keepR t b) b k).1],[]):=by
 have tree:=jsF t b k
 revert tree; try delta zzao2; intro tree
 revert tree; try delta zzao1; intro tree
 revert tree; try delta zzao0; intro tree
 have i1:=ja9 hb
 have a1:=jan b
 have i2:=jfv ht
 have a2:=jbd t
 have hk:=jlH ht b
 have i3:=jby hk
 have a3:=jav (keepR t b)
 have hN:=jgk hT b
 simp only [isT,asT,isTb,asTb,isNs,asNs,i1,a1,i2,a2,i3,a3,hN,hB,Bool.and_true,Bool.true_and] at tree
 obtain ⟨c1,c2⟩:=jkX (keepR t b) b k
 by_cases hlt:atV (keepR t b) k<(keepR t b).length
 .obtain ⟨x,hx,hr⟩:=c1 hlt
  rw [hr]
  have hxe:(keepR t b)[atV (keepR t b) k]=x:=by rw [List.getElem?_eq_getElem hlt] at hx; injection hx
  obtain ⟨a,c,hs,hc,hv⟩:=jhH hN hlt
  have hkk:k.size<=50000:=by
   have hq:=(jiu (keepR t b) k).1
   rw [hx] at hq
   have:=List.find?_some hq
   unfold isK at this
   rw [<- hxe,hs] at this
   have e:c=k:=ByteArray.ext (Array.ext' (by rw [<- ByteArray.toList_eq,<- ByteArray.toList_eq]; exact eq_of_beq this))
   rw [<- e]; omega
  rw [hxe] at hv
  have hl:=hk.1
  simp (disch:=omega) only [if_pos hlt,dF,dT,nqF,jaQ (keepR t b) (atV (keepR t b) k) hlt,hxe,List.drop_succ_cons,List.drop_zero,nqH,List.headD_cons,List.tail_cons,PV.isStr,PV.asStr,blt0,Bool.and_true,Bool.true_and] at tree
  cases hu:unpB b k x.value with
  | false=>rw [hu] at tree; exact tree.trans rfl
  | true=>rw [hu] at tree; exact tree.trans rfl
 .rw [c2 hlt]
  simp only [if_neg hlt] at tree
  exact tree.trans rfl
theorem joY:jab Tryz.prog 29 E_lra:=jac mix jvw (lp:=[]) (LO:=LO0) ⟨Tryz.func29,by kernel_rfl,by kernel_rfl⟩ (by kernel_rfl) fun ivs res bxs h=>by
 unfold E_lra at h
 split at h
 .rename_i p q k
  refine ⟨jap (by kernel_rfl),?_⟩
  rcases pick2 h with ⟨hc,he⟩ | ⟨hn,hc,he⟩
  .cases he
   obtain ⟨⟨⟨⟨g0,g1⟩,g2⟩,g3⟩,g4⟩:=andE4 hc
   obtain ⟨t,rfl,h_t⟩:=jaf g0
   obtain ⟨b,rfl,h_b⟩:=jau g1
   have e_t:asT (pT t)=t:=jbd t
   have e_b:asTb (pTb b)=b:=jan b
   rw [e_t,e_b] at g4 ⊢
   rw [e_t] at g2
   rw [e_b] at g3
   refine (jqG t b k h_t h_b g2 g3).trans ?_
   rw [if_pos (eq_of_beq g4)]
  .cases he
   rw [hc,Bool.true_and] at hn
   obtain ⟨⟨⟨g0,g1⟩,g2⟩,g3⟩:=andE3 hc
   obtain ⟨t,rfl,h_t⟩:=jaf g0
   obtain ⟨b,rfl,h_b⟩:=jau g1
   have e_t:asT (pT t)=t:=jbd t
   have e_b:asTb (pTb b)=b:=jan b
   rw [e_t,e_b] at hn ⊢
   rw [e_t] at g2
   rw [e_b] at g3
   refine (jqG t b k h_t h_b g2 g3).trans ?_
   rw [if_neg (beq_eq_false_iff_ne.1 hn)]
 .cases h
end
section
open Go.RowKit
def sdb0:List (FuncId×Entry):=(43,E_eqNds)::(44,E_eqSt)::(45,E_mkNd)::(46,E_mkS2)::[(48,E_hdS)]
def jwP (br:Br) (t u:List NodeT):=evB br Tryz.prog sdb0 [] LO0 Tryz.f14 [cP (pT t),cP (pT u)]
def E_eqTr:Entry:=fun ivs=>match ivs with
 | [.cv (.pv p),.cv (.pv q)]=>[(isT p&&isT q,cB (holds (asT p=asT q)),[])]
 | _=>[]
def jxh (br:Br) (x y:TblT):=evB br Tryz.prog sdb0 [] LO0 Tryz.f15 [cP (pTb x),cP (pTb y)]
def E_eqTb:Entry:=fun ivs=>match ivs with
 | [.cv (.pv p),.cv (.pv q)]=>[(isTb p&&isTb q,cB (holds (asTb p=asTb q)),[])]
 | _=>[]
def jwS (br:Br) (x y:List ByteArray):=evB br Tryz.prog sdb0 [] LO0 Tryz.f16 [cP (.agg [pL x]),cP (.agg [pL y])]
def E_eqRw:Entry:=fun ivs=>match ivs with
 | [.cv (.pv (.agg [p])),.cv (.pv (.agg [q]))]=>[(isL p&&isL q,cB (holds (asL p=asL q)),[])]
 | _=>[]
abbrev jga:List (Nat×List Nat×List Nat):=[(1000000,[],[2,6]),(1000001,[1600128],[])]
def jxl (br:Br) (n:Nat) (l:List PV) (k:Int):=evB br Tryz.prog sdb0 jga LO0 Tryz.f17 [.lk true [] 3 (82+2000000) n l [],cI k]
def E_mkTr:Entry:=fun ivs=>match ivs with
 | [.lk true [] 3 e n l [],.cv (.pv (.int .i64 k))]=>
  [(Nat.beq e (82+2000000)&&isNs (.sl n l)&&mrkB k&&holds (mkNdE k (asNs (.sl n l))<=800000000),cI (mkNdE k (asNs (.sl n l))),[[.dls 3 82 n (encN (mkNds k (asNs (.sl n l))))]])]
 | _=>[]
abbrev jp4:List (Nat×List Nat×List Nat):=[(1000000,[],[2,6,10]),(1000001,[1600128,1600192],[])]
def jwA (br:Br) (s g:ByteArray) (cs is:List ByteArray) (k:Int):=evB br Tryz.prog sdb0 jp4 LO0 Tryz.f18 [.lag [.pv (.str s),.pv (.str g),.lst 1 9 cs.length (cs.map .str) true,.lst 1 9 is.length (is.map .str) true],cI k]
def E_mkTb:Entry:=fun ivs=>match ivs with
 | [.lag [.pv (.str s),.pv (.str g),.lst 1 e n l true,.lst 1 f m u true],.cv (.pv (.int .i64 k))]=>
  [(isL (.sl n l)&&isL (.sl m u)&&Nat.beq e 9&&Nat.beq f 9&&decide (1<=k)&&holds (k<=800000000),cI (k+n+m),[[.pv (.str s),.pv (.str g),.lst 1 9 n ((mkL k (asL (.sl n l))).map .str) true,.lst 1 9 m ((mkL (k+n) (asL (.sl m u))).map .str) true]])]
 | _=>[]
def jwp (br:Br) (l:List ByteArray) (k:Int):=evB br Tryz.prog sdb0 jga LO0 Tryz.f19 [.lk true [] 1 9 l.length (l.map .str) [],cI k]
def juh (br:Br) (k:Int):=evB br Tryz.prog sdb0 jga LO0 Tryz.f19 [cP (.agg [.sl 0 []]),cI k]
def E_mkRw:Entry:=fun ivs=>match ivs with
 | [.lk true [] 1 e n l [],.cv (.pv (.int .i64 k))]=>
  [(isL (.sl n l)&&Nat.beq e 9&&mrkB k,cI (k+(asL (.sl n l)).length),[[.lst 1 9 n ((mkL k (asL (.sl n l))).map .str) true]])]
 | [.cv (.pv (.agg [.sl n l])),.cv (.pv (.int .i64 k))]=>[(Nat.beq n 0&&nilB l,cI k,[])]
 | _=>[]
end
section
theorem jmW (k:Int):juh brC k=brC (Nat.beq 0 0&&nilB []) (some ((.cv (.pv (.int .i64 k)),[]))) none:=by kernel_rfl
theorem jp5 (t:List NodeT) (u:List NodeT):jwP brC t u=brC (isNs (PV.sl t.length (encN t))&&isNs (PV.sl u.length (encN u))) (brC (!holds (asNs (PV.sl t.length (encN t))=asNs (PV.sl u.length (encN u)))) (some ((.cv (.pv (.bool false)),[]))) (some ((.cv (.pv (.bool true)),[])))) none:=by kernel_rfl
theorem jpm (l:List ByteArray) (k:Int):jwp brC l k=brC (isL (PV.sl l.length (List.map PV.str l))&&Nat.beq 9 9&&decide (1<=k)&&holds (k<=900000000)) (brC (Nat.beq l.length l.length) (some ((.cv (.pv (.int .i64 (k+(↑(List.length (asL (PV.sl l.length (List.map PV.str l)))):Int)))),[[.lst 1 9 l.length (List.map PV.str (mkL k (asL (PV.sl l.length (List.map PV.str l))))) true]]))) none) none:=by kernel_rfl
theorem jpR (s:ByteArray) (g:ByteArray) (cs:List ByteArray) (is:List ByteArray) (k:Int):jwA brC s g cs is k=brC (isL (PV.sl cs.length (List.map PV.str cs))&&Nat.beq 9 9&&decide (1<=k)&&holds (k<=900000000)) (brC (isL (PV.sl is.length (List.map PV.str is))&&Nat.beq 9 9&&decide (1<=k+(↑(List.length (asL (PV.sl cs.length (List.map PV.str cs)))):Int))&&holds (k+(↑(List.length (asL (PV.sl cs.length (List.map PV.str cs)))):Int)<=900000000)) (brC (Nat.beq cs.length cs.length&&(Nat.beq is.length is.length&&true)) (some ((.cv (.pv (.int .i64 (k+(↑(List.length (asL (PV.sl cs.length (List.map PV.str cs)))):Int)+(↑(List.length (asL (PV.sl is.length (List.map PV.str is)))):Int)))),[[.pv (.str s),.pv (.str g),.lst 1 9 cs.length (List.map PV.str (mkL k (asL (PV.sl cs.length (List.map PV.str cs))))) true,.lst 1 9 is.length (List.map PV.str (mkL (k+(↑(List.length (asL (PV.sl cs.length (List.map PV.str cs)))):Int)) (asL (PV.sl is.length (List.map PV.str is))))) true]]))) none) none) none:=by kernel_rfl
theorem jol (n:Nat) (l:List PV) (k:Int):jxl brC n l k=brC (Nat.beq (82+2000000-2000000+2000000) 2000082&&isNs (PV.sl n l)&&mrkB k&&holds (mkNdE k (asNs (PV.sl n l))<=800000000)) (brC (Nat.beq n n) (some ((.cv (.pv (.int .i64 (mkNdE k (asNs (PV.sl n l))))),[[.dls 3 82 n (encN (mkNds k (asNs (PV.sl n l))))]]))) none) none:=by kernel_rfl
theorem jp1 (x:List ByteArray) (y:List ByteArray):jwS brC x y=brC (isL (PV.sl x.length (List.map PV.str x))&&isL (PV.sl y.length (List.map PV.str y))) (brC (!holds (asL (PV.sl x.length (List.map PV.str x))=asL (PV.sl y.length (List.map PV.str y)))) (some ((.cv (.pv (.bool false)),[]))) (some ((.cv (.pv (.bool true)),[])))) none:=by kernel_rfl
theorem jpW (x:TblT) (y:TblT):jxh brC x y=brC (!ByteArray.toList x.name==ByteArray.toList y.name) (some ((.cv (.pv (.bool false)),[]))) (brC (!ByteArray.toList x.glob==ByteArray.toList y.glob) (some ((.cv (.pv (.bool false)),[]))) (brC (isL (PV.sl x.cols.length (List.map PV.str x.cols))&&isL (PV.sl y.cols.length (List.map PV.str y.cols))) (brC (!holds (asL (PV.sl x.cols.length (List.map PV.str x.cols))=asL (PV.sl y.cols.length (List.map PV.str y.cols)))) (some ((.cv (.pv (.bool false)),[]))) (brC (isL (PV.sl x.idxs.length (List.map PV.str x.idxs))&&isL (PV.sl y.idxs.length (List.map PV.str y.idxs))) (brC (!holds (asL (PV.sl x.idxs.length (List.map PV.str x.idxs))=asL (PV.sl y.idxs.length (List.map PV.str y.idxs)))) (some ((.cv (.pv (.bool false)),[]))) (some ((.cv (.pv (.bool true)),[])))) none)) none)):=by kernel_rfl
end
section
open Go.RowKit
theorem jep:jad Tryz.prog sdb0:=⟨jrM,jpN,jt2,jtP,jtI,trivial⟩
theorem tbEq (x y:TblT):holds (x=y)=((x.name.toList==y.name.toList)&&((x.glob.toList==y.glob.toList)&&(holds (x.cols=y.cols)&&holds (x.idxs=y.idxs)))):=by
 rw [Bool.eq_iff_iff]
 constructor
 .intro h
  have e:=jam h
  subst e
  rw [jaj (rfl:x.cols=x.cols),jaj (rfl:x.idxs=x.idxs),beq_self_eq_true,beq_self_eq_true]
  rfl
 .intro h
  simp only [nqE,beq_iff_eq] at h
  obtain ⟨h1,h2,h3,h4⟩:=h
  have h1:=ba_tl h1
  have h2:=ba_tl h2
  have h3:=jam h3
  have h4:=jam h4
  cases x
  cases y
  dsimp only at h1 h2 h3 h4
  rw [h1,h2,h3,h4]
  exact jaj rfl
theorem juf:jab Tryz.prog 14 E_eqTr:=jac mix jep (lp:=[]) (LO:=LO0) ⟨Tryz.func14,by kernel_rfl,by kernel_rfl⟩ (by kernel_rfl) fun ivs res bxs h=>by
 unfold E_eqTr at h
 split at h
 .rename_i p q
  obtain ⟨hc,he⟩:=pick1 h
  cases he
  obtain ⟨k0,k1⟩:=andE hc
  obtain ⟨t,rfl,h_t⟩:=jaf k0
  obtain ⟨u,rfl,h_u⟩:=jaf k1
  have e_t:asT (pT t)=t:=jbd t
  have e_u:asT (pT u)=u:=jbd u
  rw [e_t,e_u]
  refine ⟨jap (by kernel_rfl),(jp5 t u).trans ?_⟩
  rw [show isNs (PV.sl t.length (encN t))=true from jby h_t,show isNs (PV.sl u.length (encN u))=true from jby h_u,show asNs (PV.sl t.length (encN t))=t from jav t,show asNs (PV.sl u.length (encN u))=u from jav u]
  cases holds (t=u) <;> rfl
 .cases h
theorem jui:jab Tryz.prog 15 E_eqTb:=jac mix jep (lp:=[]) (LO:=LO0) ⟨Tryz.func15,by kernel_rfl,by kernel_rfl⟩ (by kernel_rfl) fun ivs res bxs h=>by
 unfold E_eqTb at h
 split at h
 .rename_i p q
  obtain ⟨hc,he⟩:=pick1 h
  cases he
  obtain ⟨k0,k1⟩:=andE hc
  obtain ⟨x,rfl,h_x⟩:=jaf k0
  obtain ⟨y,rfl,h_y⟩:=jaf k1
  have e_x:asTb (pTb x)=x:=jan x
  have e_y:asTb (pTb y)=y:=jan y
  rw [e_x,e_y,tbEq]
  refine ⟨jap (by kernel_rfl),(jpW x y).trans ?_⟩
  have i1:=jai h_x.2.2.1
  have i2:=jai h_y.2.2.1
  have i3:=jai h_x.2.2.2
  have i4:=jai h_y.2.2.2
  simp only [isL,i1,i2,i3,i4,jae,Bool.and_true]
  generalize (x.name.toList==y.name.toList)=a
  generalize (x.glob.toList==y.glob.toList)=b
  generalize holds (x.cols=y.cols)=c
  generalize holds (x.idxs=y.idxs)=d
  cases a <;> cases b <;> cases c <;> cases d <;> rfl
 .cases h
theorem jtX:jab Tryz.prog 16 E_eqRw:=jac mix jep (lp:=[]) (LO:=LO0) ⟨Tryz.func16,by kernel_rfl,by kernel_rfl⟩ (by kernel_rfl) fun ivs res bxs h=>by
 unfold E_eqRw at h
 split at h
 .rename_i p q
  obtain ⟨hc,he⟩:=pick1 h
  cases he
  obtain ⟨k0,k1⟩:=andE hc
  obtain ⟨x,rfl,h_x⟩:=jaf k0
  obtain ⟨y,rfl,h_y⟩:=jaf k1
  have e_x:asL (pL x)=x:=jae x
  have e_y:asL (pL y)=y:=jae y
  rw [e_x,e_y]
  refine ⟨jap (by kernel_rfl),(jp1 x y).trans ?_⟩
  have i1:=jai h_x
  have i2:=jai h_y
  simp only [isL,i1,i2,jae,Bool.and_true]
  cases holds (x=y) <;> rfl
 .cases h
theorem jvA:jab Tryz.prog 17 E_mkTr:=jac mix jep (lp:=jga) (LO:=LO0) ⟨Tryz.func17,by kernel_rfl,by kernel_rfl⟩ (by kernel_rfl) fun ivs res bxs h=>by
 unfold E_mkTr at h
 split at h
 .rename_i e n l k
  obtain ⟨hc,he⟩:=pick1 h
  cases he
  obtain ⟨⟨⟨k0,k1⟩,k2⟩,k3⟩:=andE3 hc
  obtain rfl:=nqB k0
  refine ⟨jap (by kernel_rfl),(jol n l k).trans ?_⟩
  rw [k1,k2,k3,Nat.beq_refl n]
  rfl
 .cases h
theorem jvp:jab Tryz.prog 18 E_mkTb:=jac mix jep (lp:=jp4) (LO:=LO0) ⟨Tryz.func18,by kernel_rfl,by kernel_rfl⟩ (by kernel_rfl) fun ivs res bxs h=>by
 unfold E_mkTb at h
 split at h
 .rename_i s g e n l f m u k
  obtain ⟨hc,he⟩:=pick1 h
  cases he
  obtain ⟨⟨⟨⟨⟨k0,k1⟩,k2⟩,k3⟩,k4⟩,k5⟩:=andE5 hc
  obtain rfl:=nqB k2
  obtain rfl:=nqB k3
  obtain ⟨t,q_t,h_t⟩:=jaf k0
  injection q_t with qa qb
  subst qa
  subst qb
  obtain ⟨v,q_v,h_v⟩:=jaf k1
  injection q_v with qa qb
  subst qa
  subst qb
  have e_t:asL (.sl t.length (t.map .str))=t:=jae t
  have e_v:asL (.sl v.length (v.map .str))=v:=jae v
  refine ⟨jap (by kernel_rfl),(jpR s g t v k).trans ?_⟩
  have hl:=h_t.1
  have g4:=nqI k4
  have g5:=jam k5
  have q1:holds (k<=900000000)=true:=jaj (by omega)
  have q2:holds (k+(t.length:Int)<=900000000)=true:=jaj (by omega)
  rw [e_t,e_v,k0,k1,k4,q1,q2,dT (show (1:Int)<=k+(t.length:Int) by omega),Nat.beq_refl t.length,Nat.beq_refl v.length]
  rfl
 .cases h
theorem jvI:jab Tryz.prog 19 E_mkRw:=jac mix jep (lp:=jga) (LO:=LO0) ⟨Tryz.func19,by kernel_rfl,by kernel_rfl⟩ (by kernel_rfl) fun ivs res bxs h=>by
 unfold E_mkRw at h
 split at h
 .rename_i e n l k
  obtain ⟨hc,he⟩:=pick1 h
  cases he
  obtain ⟨⟨k0,k1⟩,k2⟩:=andE2 hc
  obtain ⟨k2,k3⟩:=je0 k2
  have k3:holds (k<=900000000)=true:=jaj (by have:=jam k3; omega)
  obtain rfl:=nqB k1
  obtain ⟨t,q_t,h_t⟩:=jaf k0
  injection q_t with qa qb
  subst qa
  subst qb
  have e_t:asL (.sl t.length (t.map .str))=t:=jae t
  refine ⟨jap (by kernel_rfl),(jpm t k).trans ?_⟩
  rw [e_t,k0,k2,k3,Nat.beq_refl t.length]
  rfl
 .rename_i n l k
  obtain ⟨hc,he⟩:=pick1 h
  cases he
  obtain ⟨k0,k1⟩:=andE hc
  obtain rfl:=nqB k0
  obtain rfl:=ja2 k1
  refine ⟨jap (by kernel_rfl),(jmW k).trans ?_⟩
  rw [jbU]
  rfl
 .cases h
theorem jup {l:List ByteArray} {k:Int} (h:0<=szL l k):szL l k+l.length<=k:=by
 unfold szL at h ⊢
 by_cases hc:k-(l.length:Int)<0
 .rw [dT hc,cond_true] at h; omega
 .rw [dF hc,cond_false] at h ⊢
  by_cases hd:szX l (k-(l.length:Int))<0
  .rw [dT hd,cond_true] at h; omega
  .rw [dF hd,cond_false]
   have h1:=jl4 l (k-l.length)
   omega
theorem jsH {x:NodeT} {k:Int} (h:0<=szNd x k) (hk:k<=1048576):szNd x k+x.subs.length<=k:=by
 unfold szNd at h ⊢
 by_cases hc:k-(x.name.size:Int)<0
 .rw [dT hc,cond_true] at h; omega
 .rw [dF hc,cond_false] at h ⊢
  by_cases hd:szL x.subs (k-(x.name.size:Int))<0
  .rw [dT hd,cond_true] at h; omega
  .rw [dF hd,cond_false] at h ⊢
   have h1:=jup (l:=x.subs) (k:=k-(x.name.size:Int)) (by omega)
   by_cases hf:szL x.subs (k-(x.name.size:Int))-(x.value.size:Int)<0
   .rw [dT hf,cond_true] at h; omega
   .rw [dF hf,cond_false]
    omega
theorem jmm:∀ (l:List NodeT) (k j:Int),0<=szNX l j->j<=1048576->mkNdE k l<=k+2*l.length+(j-szNX l j)
 | [],k,j,h,hj=>by
  show k<=_
  simp [szNX]
 | x::t,k,j,h,hj=>by
  unfold szNX at h ⊢
  by_cases hd:szNd x j<0
  .rw [dT hd,cond_true] at h
   omega
  .rw [dF hd,cond_false] at h
   rw [dF hd,cond_false]
   have h1:=jsH (x:=x) (by omega) hj
   have ih:=jmm t (k+2+(x.subs.length:Int)) (szNd x j) h (by omega)
   show mkNdE (k+2+(x.subs.length:Int)) t<=_
   rw [nqH]
   omega
theorem jtR {l:List NodeT} {k:Int} (h:0<=szTr l k) (hk:k<=1048576):mkNdE 1 l<=4000000:=by
 unfold szTr szNs at h
 by_cases hc:k-(l.length:Int)<0
 .rw [dT hc,cond_true] at h; cases h
 .rw [dF hc,cond_false] at h
  by_cases hd:szNX l (k-(l.length:Int))<0
  .rw [dT hd,cond_true] at h; cases h
  .rw [dF hd,cond_false] at h
   have:=jmm l 1 (k-l.length) (by omega) (by omega)
   omega
end
section
open Go.RowKit
structure ChT where
 kind:Int
 name:ByteArray
 subs:List ByteArray
 value:ByteArray
deriving Inhabited
abbrev pC (x:ChT):PV:=.agg [.int .i64 x.kind,.str x.name,pL x.subs,.str x.value]
def encC:List ChT->List PV
 | []=>[]
 | x::t=>.int .i64 x.kind::.str x.name::pL x.subs::.str x.value::encC t
abbrev pCs (t:List ChT):PV:=.sl t.length (encC t)
def shC (x:ChT):Prop:=x.name.size<=1048576/\shL x.subs/\x.value.size<=1048576
def shCs (t:List ChT):Prop:=t.length<=1048576/\∀ x∈t,shC x
theorem jmw:∀ {t u:List ChT},encC t=encC u->t=u
 | [],[],_=>rfl
 | [],_::_,h=>by cases h
 | _::_,[],h=>by cases h
 | x::t,y::u,h=>by
  unfold encC at h
  injection h with h0 h
  injection h with h1 h
  injection h with h2 h
  injection h with h3 h
  injection h0 with _ h0
  injection h1 with h1
  injection h3 with h3
  have h2:=jeO _ _ h2
  have:=jmw h
  cases x; cases y
  simp_all
theorem ju2 (t u:List ChT) (h:pCs t=pCs u):t=u:=by injection h with _ h; exact jmw h
theorem jw4 (x y:ChT) (h:pC x=pC y):x=y:=by
 injection h with h
 injection h with h0 h
 injection h with h1 h
 injection h with h2 h
 injection h with h3 h
 injection h0 with _ h0
 injection h1 with h1
 injection h3 with h3
 have h2:=jeO _ _ h2
 cases x; cases y
 simp_all
abbrev isC (p:PV):Bool:=isE pC shC p
abbrev asC (p:PV):ChT:=asE pC p
abbrev isCs (p:PV):Bool:=isE pCs shCs p
abbrev asCs (p:PV):List ChT:=asE pCs p
theorem jtx {x:ChT} (h:shC x):isE pC shC (PV.agg [PV.int .i64 x.kind,PV.str x.name,PV.sl x.subs.length (x.subs.map PV.str),PV.str x.value])=true:=jba (enc:=pC) h
theorem jrk (x:ChT):asE pC (PV.agg [PV.int .i64 x.kind,PV.str x.name,PV.sl x.subs.length (x.subs.map PV.str),PV.str x.value])=x:=jeS jw4 x
theorem jb8 {t:List ChT} (h:shCs t):isE pCs shCs (PV.sl t.length (encC t))=true:=jba (enc:=pCs) h
theorem jbp (t:List ChT):asE pCs (PV.sl t.length (encC t))=t:=jeS ju2 t
theorem jmh:∀ t:List ChT,(encC t).length=t.length*4
 | []=>rfl
 | x::t=>by
  unfold encC
  rw [nqH,nqH,nqH,nqH,jmh t,nqH]
  omega
theorem jdR:∀ (t:List ChT) (i:Nat) (h:i<t.length),(encC t).drop (i*4)=.int .i64 t[i].kind::.str t[i].name::.sl t[i].subs.length (t[i].subs.map PV.str)::.str t[i].value::encC (t.drop (i+1))
 | [],i,h=>by cases h
 | x::t,0,h=>rfl
 | x::t,i+1,h=>by
  have:=jdR t i (by simpa using h)
  rw [show (i+1)*4=i*4+4 by omega]
  show List.drop (i*4+4) (.int .i64 x.kind::.str x.name::pL x.subs::.str x.value::encC t)=_
  rw [List.drop_succ_cons,List.drop_succ_cons,List.drop_succ_cons,List.drop_succ_cons,this]
  simp only [List.getElem_cons_succ,List.drop_succ_cons]
theorem jdA:∀ t u:List ChT,encC (t++u)=encC t++encC u
 | [],u=>rfl
 | x::t,u=>by
  show .int .i64 x.kind::.str x.name::pL x.subs::.str x.value::encC (t++u)=_
  rw [jdA t u]
  rfl
theorem jtL {t:List ChT} (h:shCs t) {i:Nat} (hi:i<t.length):shC t[i]:=h.2 _ (List.getElem_mem hi)
end
section
open Go.RowKit
def mkCh (k:Int) (x:ChT):ChT:=⟨(k),mkV (k+1),mkL (k+2) x.subs,mkV (k+2+(x.subs.length:Int))⟩
def mkChs:Int->List ChT->List ChT
 | _,[]=>[]
 | k,x::t=>mkCh k x::mkChs (k+3+(x.subs.length:Int)) t
def mkChE:Int->List ChT->Int
 | k,[]=>k
 | k,x::t=>mkChE (k+3+(x.subs.length:Int)) t
abbrev jbQ:List (Nat×List Nat×List Nat):=[(2,[0,1,5],[0,1]),(1000000,[],[31]),(1000001,[1600528],[])]
abbrev aWCh0:AV×Option Ob:=(.own 0,some (.lst 4 63 0 [] true))
abbrev aWCh (l:List PV) (n:Nat):AV×Option Ob:=(.own 0,some (.dls 4 63 n l true none))
def jfi (ls:LS):List (Bool×Ex×LS):=match ls with
 | [(.own x,some (.dls 4 e n l true none)),(.pv (.int .i64 k),none),(.pv (.int .i64 i),none)]=>
  [(isCs (.sl n l)&&Nat.beq e 63&&Nat.beq x 0&&(i==0)&&decide (1<=k)&&holds (k<=100000000)&&holds (mkChE k (asCs (.sl n l))<=800000000),.exit 0,[aWCh (encC (mkChs k (asCs (.sl n l)))) n,aI (mkChE k (asCs (.sl n l)))])]
 | [(.own x,some (.lst 4 e n l true)),(.pv (.int .i64 k),none),(.pv (.int .i64 i),none)]=>
  [(Nat.beq e 63&&Nat.beq x 0&&Nat.beq n 0&&nilB l&&(i==0),.exit 0,[aWCh0,aI k])]
 | _=>[]
def jdC:LoopT:=fun _ ls=>match ls with
 | [(.pv (.sl n l),none),(.pv (.int .i64 k),none),(.pv (.int .i64 i),none)]=>
  [(Nat.beq n 0&&nilB l&&(i==0),.exit 0,[aP (.sl 0 []),aI k])]
 | _=>[]
def jdo:LoopT:=fun k ls=>bif Nat.beq k 2 then jfi ls else []
def jv8 (br:Br) (n:Nat) (l:List PV) (k i:Int):=rdB br Tryz.prog kfb1 jbQ jdo Tryz.f20 2 [0] [aWCh l n,aI k,aI i]
def jvs (br:Br) (k i:Int):=rdB br Tryz.prog kfb1 jbQ jdo Tryz.f20 2 [0] [aWCh0,aI k,aI i]
def jvD (br:Br) (k i:Int):=rdB br Tryz.prog kfb1 jbQ jdC Tryz.f20 2 [] [aP (.sl 0 []),aI k,aI i]
def jw7 (br:Br) (n:Nat) (l:List PV) (k:Int):=evB br Tryz.prog kfb1 jbQ jdo Tryz.f20 [.lk false [] 4 (63+2000000) n l [],cI k]
def juu (br:Br) (k:Int):=evB br Tryz.prog kfb1 jbQ jdo Tryz.f20 [.lk false [] 4 63 0 [] [],cI k]
def juj (br:Br) (k:Int):=evB br Tryz.prog kfb1 jbQ jdC Tryz.f20 [cP (.sl 0 []),cI k]
def E_mkCha:Entry:=fun ivs=>match ivs with
 | [.lk false [] 4 e n l [],.cv (.pv (.int .i64 k))]=>
  [(Nat.beq e (63+2000000)&&isCs (.sl n l)&&mrkB k&&holds (mkChE k (asCs (.sl n l))<=800000000),cI (mkChE k (asCs (.sl n l))),[[.dls 4 63 n (encC (mkChs k (asCs (.sl n l))))]]),
   (Nat.beq e 63&&Nat.beq n 0&&nilB l,cI k,[[.lst 4 63 0 [] true]])]
 | _=>[]
def E_mkChb:Entry:=fun ivs=>match ivs with
 | [.cv (.pv (.sl n l)),.cv (.pv (.int .i64 k))]=>[(Nat.beq n 0&&nilB l,cI k,[])]
 | _=>[]
def E_mkCh:Entry:=fun ivs=>E_mkCha ivs++E_mkChb ivs
abbrev jhy:List (Nat×List Nat×List Nat):=[(2,[0,1,5],[1])]
def jfB (ls:LS):List (Bool×Ex×LS):=match ls with
 | [(.pv p,none),(.pv (.int .i64 k),none),(.pv (.int .i64 i),none)]=>
  [(isCs p&&(i==0)&&decide (1<=k)&&holds (k<=100000000)&&holds (mkChE k (asCs p)<=800000000)&&holds (asCs p=mkChs k (asCs p)),.exit 0,[aI (mkChE k (asCs p))])]
 | _=>[]
def jhX:LoopT:=fun k ls=>bif Nat.beq k 2 then jfB ls else []
def jwO (br:Br) (l:List ChT) (k i:Int):=rdB br Tryz.prog kfb4 jhy jhX Tryz.f21 2 [] [aP (pCs l),aI k,aI i]
def jxe (br:Br) (l:List ChT) (k:Int):=evB br Tryz.prog kfb4 jhy jhX Tryz.f21 [cP (pCs l),cI k]
def E_hdCh:Entry:=fun ivs=>match ivs with
 | [.cv (.pv p),.cv (.pv (.int .i64 k))]=>[(isCs p&&mrkB k&&holds (mkChE k (asCs p)<=800000000)&&holds (asCs p=mkChs k (asCs p)),cI (mkChE k (asCs p)),[])]
 | _=>[]
def jwJ (br:Br) (x y:ChT):=evB br Tryz.prog kfb2 [] LO0 Tryz.f42 [cP (pC x),cP (pC y)]
def E_eqCh:Entry:=fun ivs=>match ivs with
 | [.cv (.pv p),.cv (.pv q)]=>[(isC p&&isC q,cB (holds (asC p=asC q)),[])]
 | _=>[]
def eqbCh:List (FuncId×Entry):=[(42,E_eqCh)]
abbrev jdV:List (Nat×List Nat×List Nat):=[(4,[0,1,5],[0,4])]
def jee (ls:LS):List (Bool×Ex×LS):=match ls with
 | [(.pv p,none),(.pv q,none),(.pv (.int .i64 i),none)]=>
  [(isCs p&&isCs q&&(i==0)&&decide ((asCs p).length=(asCs q).length)&&holds (asCs p=asCs q),.exit 0,[aP p,aX]),
   (isCs p&&isCs q&&(i==0)&&decide ((asCs p).length=(asCs q).length),.ret,[aP p,aB false])]
 | _=>[]
def jdB:LoopT:=fun k ls=>bif Nat.beq k 4 then jee ls else []
def juW (br:Br) (l u:List ChT) (i:Int):=rdB br Tryz.prog eqbCh jdV jdB Tryz.f13 4 [] [aP (pCs l),aP (pCs u),aI i]
def ju5 (br:Br) (l u:List ChT):=evB br Tryz.prog eqbCh jdV jdB Tryz.f13 [cP (pCs l),cP (pCs u)]
def E_eqChs:Entry:=fun ivs=>match ivs with
 | [.cv (.pv p),.cv (.pv q)]=>[(isCs p&&isCs q,cB (holds (asCs p=asCs q)),[])]
 | _=>[]
end
section
theorem jpF (n:Nat) (l:List PV) (k:Int):jw7 brC n l k=brC (isCs (PV.sl n l)&&Nat.beq (63+2000000-2000000) 63&&Nat.beq 0 0&&0==0&&decide (1<=k)&&holds (k<=100000000)&&holds (mkChE k (asCs (PV.sl n l))<=800000000)) (brC (Nat.beq n n) (some ((.cv (.pv (.int .i64 (mkChE k (asCs (PV.sl n l))))),[[.dls 4 63 n (encC (mkChs k (asCs (PV.sl n l))))]]))) none) none:=by kernel_rfl
theorem jjT (l:List ChT) (k:Int) (i:Int):jwO brC l k i=brC (decide (i<(↑l.length:Int))) (brC (decide (0<=i)&&decide (i<(↑l.length:Int))) (brC (Nat.blt 0 (List.length (List.drop 0 (List.drop (Int.toNat i*4) (encC l))))&&PV.isInt .i64 (List.headD (List.drop 0 (List.drop (Int.toNat i*4) (encC l))) PV.nilp)&&true) (brC (PV.asInt (List.headD (List.drop 0 (List.drop (Int.toNat i*4) (encC l))) PV.nilp) !=k) (some (.inr (.ret,[(.pv (.int .i64 k),none)]))) (brC (decide (0<=i)&&decide (i<(↑l.length:Int))) (brC (Nat.blt 0 (List.length (List.drop 1 (List.drop (Int.toNat i*4) (encC l))))&&PV.isStr (List.headD (List.drop 1 (List.drop (Int.toNat i*4) (encC l))) PV.nilp)&&true) (brC (decide (1<=IntKind.wrap .i64 (k+1))&&holds (IntKind.wrap .i64 (k+1)<=1000000000)) (brC (!ByteArray.toList (PV.asStr (List.headD (List.drop 1 (List.drop (Int.toNat i*4) (encC l))) PV.nilp))==ByteArray.toList (mkV (IntKind.wrap .i64 (k+1)))) (some (.inr (.ret,[(.pv (.int .i64 (IntKind.wrap .i64 (k+1))),none)]))) (brC (decide (0<=i)&&decide (i<(↑l.length:Int))) (brC (Nat.blt 0 (List.length (List.drop 2 (List.drop (Int.toNat i*4) (encC l))))&&PV.isSl (List.headD (List.drop 2 (List.drop (Int.toNat i*4) (encC l))) PV.nilp)&&true) (brC (isL (PV.sl (PV.slN (List.headD (List.drop 2 (List.drop (Int.toNat i*4) (encC l))) PV.nilp)) (PV.slL (List.headD (List.drop 2 (List.drop (Int.toNat i*4) (encC l))) PV.nilp)))&&decide (1<=IntKind.wrap .i64 (IntKind.wrap .i64 (k+1)+1))&&holds (IntKind.wrap .i64 (IntKind.wrap .i64 (k+1)+1)<=900000000)&&holds (asL (PV.sl (PV.slN (List.headD (List.drop 2 (List.drop (Int.toNat i*4) (encC l))) PV.nilp)) (PV.slL (List.headD (List.drop 2 (List.drop (Int.toNat i*4) (encC l))) PV.nilp)))=mkL (IntKind.wrap .i64 (IntKind.wrap .i64 (k+1)+1)) (asL (PV.sl (PV.slN (List.headD (List.drop 2 (List.drop (Int.toNat i*4) (encC l))) PV.nilp)) (PV.slL (List.headD (List.drop 2 (List.drop (Int.toNat i*4) (encC l))) PV.nilp)))))) (brC (decide (IntKind.wrap .i64 (IntKind.wrap .i64 (k+1)+1)+(↑(List.length (asL (PV.sl (PV.slN (List.headD (List.drop 2 (List.drop (Int.toNat i*4) (encC l))) PV.nilp)) (PV.slL (List.headD (List.drop 2 (List.drop (Int.toNat i*4) (encC l))) PV.nilp))))):Int)<0)) (some (.inr (.ret,[(.pv (.int .i64 (IntKind.wrap .i64 (IntKind.wrap .i64 (k+1)+1)+(↑(List.length (asL (PV.sl (PV.slN (List.headD (List.drop 2 (List.drop (Int.toNat i*4) (encC l))) PV.nilp)) (PV.slL (List.headD (List.drop 2 (List.drop (Int.toNat i*4) (encC l))) PV.nilp))))):Int))),none)]))) (brC (decide (0<=i)&&decide (i<(↑l.length:Int))) (brC (Nat.blt 0 (List.length (List.drop 3 (List.drop (Int.toNat i*4) (encC l))))&&PV.isStr (List.headD (List.drop 3 (List.drop (Int.toNat i*4) (encC l))) PV.nilp)&&true) (brC (decide (1<=IntKind.wrap .i64 (IntKind.wrap .i64 (k+1)+1)+(↑(List.length (asL (PV.sl (PV.slN (List.headD (List.drop 2 (List.drop (Int.toNat i*4) (encC l))) PV.nilp)) (PV.slL (List.headD (List.drop 2 (List.drop (Int.toNat i*4) (encC l))) PV.nilp))))):Int))&&holds (IntKind.wrap .i64 (IntKind.wrap .i64 (k+1)+1)+(↑(List.length (asL (PV.sl (PV.slN (List.headD (List.drop 2 (List.drop (Int.toNat i*4) (encC l))) PV.nilp)) (PV.slL (List.headD (List.drop 2 (List.drop (Int.toNat i*4) (encC l))) PV.nilp))))):Int)<=1000000000)) (brC (!ByteArray.toList (PV.asStr (List.headD (List.drop 3 (List.drop (Int.toNat i*4) (encC l))) PV.nilp))==ByteArray.toList (mkV (IntKind.wrap .i64 (IntKind.wrap .i64 (k+1)+1)+(↑(List.length (asL (PV.sl (PV.slN (List.headD (List.drop 2 (List.drop (Int.toNat i*4) (encC l))) PV.nilp)) (PV.slL (List.headD (List.drop 2 (List.drop (Int.toNat i*4) (encC l))) PV.nilp))))):Int)))) (some (.inr (.ret,[(.pv (.int .i64 (IntKind.wrap .i64 (IntKind.wrap .i64 (k+1)+1)+(↑(List.length (asL (PV.sl (PV.slN (List.headD (List.drop 2 (List.drop (Int.toNat i*4) (encC l))) PV.nilp)) (PV.slL (List.headD (List.drop 2 (List.drop (Int.toNat i*4) (encC l))) PV.nilp))))):Int))),none)]))) (some (.inl [(.pv (.sl l.length (encC l)),none),(.pv (.int .i64 (IntKind.wrap .i64 (IntKind.wrap .i64 (IntKind.wrap .i64 (k+1)+1)+(↑(List.length (asL (PV.sl (PV.slN (List.headD (List.drop 2 (List.drop (Int.toNat i*4) (encC l))) PV.nilp)) (PV.slL (List.headD (List.drop 2 (List.drop (Int.toNat i*4) (encC l))) PV.nilp))))):Int)+1))),none),(.pv (.int .i64 (IntKind.wrap .i64 (i+1))),none)]))) none) none) none)) none) none) none)) none) none) none)) none) none) (some (.inr (.exit 0,[(.pv (.int .i64 k),none)]))):=by kernel_rfl
theorem jjm (n:Nat) (l:List PV) (k:Int) (i:Int):jv8 brC n l k i=brC (decide (i<(↑n:Int))) (brC (decide (0<=i)&&decide (i<(↑n:Int))) (brC (Nat.ble (Int.toNat i*4+0+1) l.length&&noKid 63 4 (Int.toNat i*4+0)) (brC (decide (1<=IntKind.wrap .i64 (k+1))&&holds (IntKind.wrap .i64 (k+1)<=1000000000)) (brC (decide (0<=i)&&decide (i<(↑n:Int))) (brC (Nat.ble (Int.toNat i*4+1+1) (List.length (List.take (Int.toNat i*4+0) l++[PV.int .i64 k]++List.drop (Int.toNat i*4+0+1) l))&&noKid 63 4 (Int.toNat i*4+1)) (brC (decide (0<=i)&&decide (i<(↑n:Int))) (brC (Nat.blt (Int.toNat i*4+2) (List.length (List.take (Int.toNat i*4+1) (List.take (Int.toNat i*4+0) l++[PV.int .i64 k]++List.drop (Int.toNat i*4+0+1) l)++[PV.str (mkV (IntKind.wrap .i64 (k+1)))]++List.drop (Int.toNat i*4+1+1) (List.take (Int.toNat i*4+0) l++[PV.int .i64 k]++List.drop (Int.toNat i*4+0+1) l)))&&(PV.isSl (List.headD (List.drop (Int.toNat i*4+2) (List.take (Int.toNat i*4+1) (List.take (Int.toNat i*4+0) l++[PV.int .i64 k]++List.drop (Int.toNat i*4+0+1) l)++[PV.str (mkV (IntKind.wrap .i64 (k+1)))]++List.drop (Int.toNat i*4+1+1) (List.take (Int.toNat i*4+0) l++[PV.int .i64 k]++List.drop (Int.toNat i*4+0+1) l))) PV.nilp)&&isKid 63 4 (Int.toNat i*4+2) 1 9)) (brC (isL (PV.sl (PV.slN (List.headD (List.drop (Int.toNat i*4+2) (List.take (Int.toNat i*4+1) (List.take (Int.toNat i*4+0) l++[PV.int .i64 k]++List.drop (Int.toNat i*4+0+1) l)++[PV.str (mkV (IntKind.wrap .i64 (k+1)))]++List.drop (Int.toNat i*4+1+1) (List.take (Int.toNat i*4+0) l++[PV.int .i64 k]++List.drop (Int.toNat i*4+0+1) l))) PV.nilp)) (PV.slL (List.headD (List.drop (Int.toNat i*4+2) (List.take (Int.toNat i*4+1) (List.take (Int.toNat i*4+0) l++[PV.int .i64 k]++List.drop (Int.toNat i*4+0+1) l)++[PV.str (mkV (IntKind.wrap .i64 (k+1)))]++List.drop (Int.toNat i*4+1+1) (List.take (Int.toNat i*4+0) l++[PV.int .i64 k]++List.drop (Int.toNat i*4+0+1) l))) PV.nilp)))&&Nat.beq 9 9&&decide (1<=IntKind.wrap .i64 (IntKind.wrap .i64 (k+1)+1))&&holds (IntKind.wrap .i64 (IntKind.wrap .i64 (k+1)+1)<=900000000)) (brC (decide (1<=IntKind.wrap .i64 (IntKind.wrap .i64 (k+1)+1)+(↑(List.length (asL (PV.sl (PV.slN (List.headD (List.drop (Int.toNat i*4+2) (List.take (Int.toNat i*4+1) (List.take (Int.toNat i*4+0) l++[PV.int .i64 k]++List.drop (Int.toNat i*4+0+1) l)++[PV.str (mkV (IntKind.wrap .i64 (k+1)))]++List.drop (Int.toNat i*4+1+1) (List.take (Int.toNat i*4+0) l++[PV.int .i64 k]++List.drop (Int.toNat i*4+0+1) l))) PV.nilp)) (PV.slL (List.headD (List.drop (Int.toNat i*4+2) (List.take (Int.toNat i*4+1) (List.take (Int.toNat i*4+0) l++[PV.int .i64 k]++List.drop (Int.toNat i*4+0+1) l)++[PV.str (mkV (IntKind.wrap .i64 (k+1)))]++List.drop (Int.toNat i*4+1+1) (List.take (Int.toNat i*4+0) l++[PV.int .i64 k]++List.drop (Int.toNat i*4+0+1) l))) PV.nilp))))):Int))&&holds (IntKind.wrap .i64 (IntKind.wrap .i64 (k+1)+1)+(↑(List.length (asL (PV.sl (PV.slN (List.headD (List.drop (Int.toNat i*4+2) (List.take (Int.toNat i*4+1) (List.take (Int.toNat i*4+0) l++[PV.int .i64 k]++List.drop (Int.toNat i*4+0+1) l)++[PV.str (mkV (IntKind.wrap .i64 (k+1)))]++List.drop (Int.toNat i*4+1+1) (List.take (Int.toNat i*4+0) l++[PV.int .i64 k]++List.drop (Int.toNat i*4+0+1) l))) PV.nilp)) (PV.slL (List.headD (List.drop (Int.toNat i*4+2) (List.take (Int.toNat i*4+1) (List.take (Int.toNat i*4+0) l++[PV.int .i64 k]++List.drop (Int.toNat i*4+0+1) l)++[PV.str (mkV (IntKind.wrap .i64 (k+1)))]++List.drop (Int.toNat i*4+1+1) (List.take (Int.toNat i*4+0) l++[PV.int .i64 k]++List.drop (Int.toNat i*4+0+1) l))) PV.nilp))))):Int)<=1000000000)) (brC (decide (0<=i)&&decide (i<(↑n:Int))) (brC (Nat.ble (Int.toNat i*4+3+1) (List.length (List.take (Int.toNat i*4+2) (List.take (Int.toNat i*4+1) (List.take (Int.toNat i*4+0) l++[PV.int .i64 k]++List.drop (Int.toNat i*4+0+1) l)++[PV.str (mkV (IntKind.wrap .i64 (k+1)))]++List.drop (Int.toNat i*4+1+1) (List.take (Int.toNat i*4+0) l++[PV.int .i64 k]++List.drop (Int.toNat i*4+0+1) l))++[PV.sl (PV.slN (List.headD (List.drop (Int.toNat i*4+2) (List.take (Int.toNat i*4+1) (List.take (Int.toNat i*4+0) l++[PV.int .i64 k]++List.drop (Int.toNat i*4+0+1) l)++[PV.str (mkV (IntKind.wrap .i64 (k+1)))]++List.drop (Int.toNat i*4+1+1) (List.take (Int.toNat i*4+0) l++[PV.int .i64 k]++List.drop (Int.toNat i*4+0+1) l))) PV.nilp)) (List.map PV.str (mkL (IntKind.wrap .i64 (IntKind.wrap .i64 (k+1)+1)) (asL (PV.sl (PV.slN (List.headD (List.drop (Int.toNat i*4+2) (List.take (Int.toNat i*4+1) (List.take (Int.toNat i*4+0) l++[PV.int .i64 k]++List.drop (Int.toNat i*4+0+1) l)++[PV.str (mkV (IntKind.wrap .i64 (k+1)))]++List.drop (Int.toNat i*4+1+1) (List.take (Int.toNat i*4+0) l++[PV.int .i64 k]++List.drop (Int.toNat i*4+0+1) l))) PV.nilp)) (PV.slL (List.headD (List.drop (Int.toNat i*4+2) (List.take (Int.toNat i*4+1) (List.take (Int.toNat i*4+0) l++[PV.int .i64 k]++List.drop (Int.toNat i*4+0+1) l)++[PV.str (mkV (IntKind.wrap .i64 (k+1)))]++List.drop (Int.toNat i*4+1+1) (List.take (Int.toNat i*4+0) l++[PV.int .i64 k]++List.drop (Int.toNat i*4+0+1) l))) PV.nilp))))))]++List.drop (Int.toNat i*4+2+1) (List.take (Int.toNat i*4+1) (List.take (Int.toNat i*4+0) l++[PV.int .i64 k]++List.drop (Int.toNat i*4+0+1) l)++[PV.str (mkV (IntKind.wrap .i64 (k+1)))]++List.drop (Int.toNat i*4+1+1) (List.take (Int.toNat i*4+0) l++[PV.int .i64 k]++List.drop (Int.toNat i*4+0+1) l))))&&noKid 63 4 (Int.toNat i*4+3)) (some (.inl [(.own 0,some (.dls 4 63 n (List.take (Int.toNat i*4+3) (List.take (Int.toNat i*4+2) (List.take (Int.toNat i*4+1) (List.take (Int.toNat i*4+0) l++[PV.int .i64 k]++List.drop (Int.toNat i*4+0+1) l)++[PV.str (mkV (IntKind.wrap .i64 (k+1)))]++List.drop (Int.toNat i*4+1+1) (List.take (Int.toNat i*4+0) l++[PV.int .i64 k]++List.drop (Int.toNat i*4+0+1) l))++[PV.sl (PV.slN (List.headD (List.drop (Int.toNat i*4+2) (List.take (Int.toNat i*4+1) (List.take (Int.toNat i*4+0) l++[PV.int .i64 k]++List.drop (Int.toNat i*4+0+1) l)++[PV.str (mkV (IntKind.wrap .i64 (k+1)))]++List.drop (Int.toNat i*4+1+1) (List.take (Int.toNat i*4+0) l++[PV.int .i64 k]++List.drop (Int.toNat i*4+0+1) l))) PV.nilp)) (List.map PV.str (mkL (IntKind.wrap .i64 (IntKind.wrap .i64 (k+1)+1)) (asL (PV.sl (PV.slN (List.headD (List.drop (Int.toNat i*4+2) (List.take (Int.toNat i*4+1) (List.take (Int.toNat i*4+0) l++[PV.int .i64 k]++List.drop (Int.toNat i*4+0+1) l)++[PV.str (mkV (IntKind.wrap .i64 (k+1)))]++List.drop (Int.toNat i*4+1+1) (List.take (Int.toNat i*4+0) l++[PV.int .i64 k]++List.drop (Int.toNat i*4+0+1) l))) PV.nilp)) (PV.slL (List.headD (List.drop (Int.toNat i*4+2) (List.take (Int.toNat i*4+1) (List.take (Int.toNat i*4+0) l++[PV.int .i64 k]++List.drop (Int.toNat i*4+0+1) l)++[PV.str (mkV (IntKind.wrap .i64 (k+1)))]++List.drop (Int.toNat i*4+1+1) (List.take (Int.toNat i*4+0) l++[PV.int .i64 k]++List.drop (Int.toNat i*4+0+1) l))) PV.nilp))))))]++List.drop (Int.toNat i*4+2+1) (List.take (Int.toNat i*4+1) (List.take (Int.toNat i*4+0) l++[PV.int .i64 k]++List.drop (Int.toNat i*4+0+1) l)++[PV.str (mkV (IntKind.wrap .i64 (k+1)))]++List.drop (Int.toNat i*4+1+1) (List.take (Int.toNat i*4+0) l++[PV.int .i64 k]++List.drop (Int.toNat i*4+0+1) l)))++[PV.str (mkV (IntKind.wrap .i64 (IntKind.wrap .i64 (k+1)+1)+(↑(List.length (asL (PV.sl (PV.slN (List.headD (List.drop (Int.toNat i*4+2) (List.take (Int.toNat i*4+1) (List.take (Int.toNat i*4+0) l++[PV.int .i64 k]++List.drop (Int.toNat i*4+0+1) l)++[PV.str (mkV (IntKind.wrap .i64 (k+1)))]++List.drop (Int.toNat i*4+1+1) (List.take (Int.toNat i*4+0) l++[PV.int .i64 k]++List.drop (Int.toNat i*4+0+1) l))) PV.nilp)) (PV.slL (List.headD (List.drop (Int.toNat i*4+2) (List.take (Int.toNat i*4+1) (List.take (Int.toNat i*4+0) l++[PV.int .i64 k]++List.drop (Int.toNat i*4+0+1) l)++[PV.str (mkV (IntKind.wrap .i64 (k+1)))]++List.drop (Int.toNat i*4+1+1) (List.take (Int.toNat i*4+0) l++[PV.int .i64 k]++List.drop (Int.toNat i*4+0+1) l))) PV.nilp))))):Int)))]++List.drop (Int.toNat i*4+3+1) (List.take (Int.toNat i*4+2) (List.take (Int.toNat i*4+1) (List.take (Int.toNat i*4+0) l++[PV.int .i64 k]++List.drop (Int.toNat i*4+0+1) l)++[PV.str (mkV (IntKind.wrap .i64 (k+1)))]++List.drop (Int.toNat i*4+1+1) (List.take (Int.toNat i*4+0) l++[PV.int .i64 k]++List.drop (Int.toNat i*4+0+1) l))++[PV.sl (PV.slN (List.headD (List.drop (Int.toNat i*4+2) (List.take (Int.toNat i*4+1) (List.take (Int.toNat i*4+0) l++[PV.int .i64 k]++List.drop (Int.toNat i*4+0+1) l)++[PV.str (mkV (IntKind.wrap .i64 (k+1)))]++List.drop (Int.toNat i*4+1+1) (List.take (Int.toNat i*4+0) l++[PV.int .i64 k]++List.drop (Int.toNat i*4+0+1) l))) PV.nilp)) (List.map PV.str (mkL (IntKind.wrap .i64 (IntKind.wrap .i64 (k+1)+1)) (asL (PV.sl (PV.slN (List.headD (List.drop (Int.toNat i*4+2) (List.take (Int.toNat i*4+1) (List.take (Int.toNat i*4+0) l++[PV.int .i64 k]++List.drop (Int.toNat i*4+0+1) l)++[PV.str (mkV (IntKind.wrap .i64 (k+1)))]++List.drop (Int.toNat i*4+1+1) (List.take (Int.toNat i*4+0) l++[PV.int .i64 k]++List.drop (Int.toNat i*4+0+1) l))) PV.nilp)) (PV.slL (List.headD (List.drop (Int.toNat i*4+2) (List.take (Int.toNat i*4+1) (List.take (Int.toNat i*4+0) l++[PV.int .i64 k]++List.drop (Int.toNat i*4+0+1) l)++[PV.str (mkV (IntKind.wrap .i64 (k+1)))]++List.drop (Int.toNat i*4+1+1) (List.take (Int.toNat i*4+0) l++[PV.int .i64 k]++List.drop (Int.toNat i*4+0+1) l))) PV.nilp))))))]++List.drop (Int.toNat i*4+2+1) (List.take (Int.toNat i*4+1) (List.take (Int.toNat i*4+0) l++[PV.int .i64 k]++List.drop (Int.toNat i*4+0+1) l)++[PV.str (mkV (IntKind.wrap .i64 (k+1)))]++List.drop (Int.toNat i*4+1+1) (List.take (Int.toNat i*4+0) l++[PV.int .i64 k]++List.drop (Int.toNat i*4+0+1) l)))) true none)),(.pv (.int .i64 (IntKind.wrap .i64 (IntKind.wrap .i64 (IntKind.wrap .i64 (k+1)+1)+(↑(List.length (asL (PV.sl (PV.slN (List.headD (List.drop (Int.toNat i*4+2) (List.take (Int.toNat i*4+1) (List.take (Int.toNat i*4+0) l++[PV.int .i64 k]++List.drop (Int.toNat i*4+0+1) l)++[PV.str (mkV (IntKind.wrap .i64 (k+1)))]++List.drop (Int.toNat i*4+1+1) (List.take (Int.toNat i*4+0) l++[PV.int .i64 k]++List.drop (Int.toNat i*4+0+1) l))) PV.nilp)) (PV.slL (List.headD (List.drop (Int.toNat i*4+2) (List.take (Int.toNat i*4+1) (List.take (Int.toNat i*4+0) l++[PV.int .i64 k]++List.drop (Int.toNat i*4+0+1) l)++[PV.str (mkV (IntKind.wrap .i64 (k+1)))]++List.drop (Int.toNat i*4+1+1) (List.take (Int.toNat i*4+0) l++[PV.int .i64 k]++List.drop (Int.toNat i*4+0+1) l))) PV.nilp))))):Int)+1))),none),(.pv (.int .i64 (IntKind.wrap .i64 (i+1))),none)])) none) none) none) none) none) none) none) none) none) none) none) (some (.inr (.exit 0,[(.own 0,some (.dls 4 63 n l true none)),(.pv (.int .i64 k),none)]))):=by kernel_rfl
theorem jnk (k:Int):juu brC k=brC (Nat.beq 63 63&&Nat.beq 0 0&&Nat.beq 0 0&&nilB []&&0==0) (some ((.cv (.pv (.int .i64 k)),[[.lst 4 63 0 [] true]]))) none:=by kernel_rfl
theorem jg7 (l:List ChT) (u:List ChT) (i:Int):juW brC l u i=brC (decide (i<(↑l.length:Int))) (brC (decide (0<=i)&&decide (i<(↑l.length:Int))) (brC (Nat.ble 4 (List.length (List.drop (Int.toNat i*4) (encC l)))&&(PV.isInt .i64 (List.headD (List.drop (Int.toNat i*4) (encC l)) PV.nilp)&&(PV.isStr (List.headD (List.tail (List.drop (Int.toNat i*4) (encC l))) PV.nilp)&&(PV.isSl (List.headD (List.tail (List.tail (List.drop (Int.toNat i*4) (encC l)))) PV.nilp)&&(PV.isStr (List.headD (List.tail (List.tail (List.tail (List.drop (Int.toNat i*4) (encC l))))) PV.nilp)&&true&&true)&&true)&&true)&&true)&&true) (brC (decide (0<=i)&&decide (i<(↑u.length:Int))) (brC (Nat.ble 4 (List.length (List.drop (Int.toNat i*4) (encC u)))&&(PV.isInt .i64 (List.headD (List.drop (Int.toNat i*4) (encC u)) PV.nilp)&&(PV.isStr (List.headD (List.tail (List.drop (Int.toNat i*4) (encC u))) PV.nilp)&&(PV.isSl (List.headD (List.tail (List.tail (List.drop (Int.toNat i*4) (encC u)))) PV.nilp)&&(PV.isStr (List.headD (List.tail (List.tail (List.tail (List.drop (Int.toNat i*4) (encC u))))) PV.nilp)&&true&&true)&&true)&&true)&&true)&&true) (brC (isC (PV.agg [PV.int .i64 (PV.asInt (List.headD (List.drop (Int.toNat i*4) (encC l)) PV.nilp)),PV.str (PV.asStr (List.headD (List.tail (List.drop (Int.toNat i*4) (encC l))) PV.nilp)),PV.sl (PV.slN (List.headD (List.tail (List.tail (List.drop (Int.toNat i*4) (encC l)))) PV.nilp)) (PV.slL (List.headD (List.tail (List.tail (List.drop (Int.toNat i*4) (encC l)))) PV.nilp)),PV.str (PV.asStr (List.headD (List.tail (List.tail (List.tail (List.drop (Int.toNat i*4) (encC l))))) PV.nilp))])&&isC (PV.agg [PV.int .i64 (PV.asInt (List.headD (List.drop (Int.toNat i*4) (encC u)) PV.nilp)),PV.str (PV.asStr (List.headD (List.tail (List.drop (Int.toNat i*4) (encC u))) PV.nilp)),PV.sl (PV.slN (List.headD (List.tail (List.tail (List.drop (Int.toNat i*4) (encC u)))) PV.nilp)) (PV.slL (List.headD (List.tail (List.tail (List.drop (Int.toNat i*4) (encC u)))) PV.nilp)),PV.str (PV.asStr (List.headD (List.tail (List.tail (List.tail (List.drop (Int.toNat i*4) (encC u))))) PV.nilp))])) (brC (!holds (asC (PV.agg [PV.int .i64 (PV.asInt (List.headD (List.drop (Int.toNat i*4) (encC l)) PV.nilp)),PV.str (PV.asStr (List.headD (List.tail (List.drop (Int.toNat i*4) (encC l))) PV.nilp)),PV.sl (PV.slN (List.headD (List.tail (List.tail (List.drop (Int.toNat i*4) (encC l)))) PV.nilp)) (PV.slL (List.headD (List.tail (List.tail (List.drop (Int.toNat i*4) (encC l)))) PV.nilp)),PV.str (PV.asStr (List.headD (List.tail (List.tail (List.tail (List.drop (Int.toNat i*4) (encC l))))) PV.nilp))])=asC (PV.agg [PV.int .i64 (PV.asInt (List.headD (List.drop (Int.toNat i*4) (encC u)) PV.nilp)),PV.str (PV.asStr (List.headD (List.tail (List.drop (Int.toNat i*4) (encC u))) PV.nilp)),PV.sl (PV.slN (List.headD (List.tail (List.tail (List.drop (Int.toNat i*4) (encC u)))) PV.nilp)) (PV.slL (List.headD (List.tail (List.tail (List.drop (Int.toNat i*4) (encC u)))) PV.nilp)),PV.str (PV.asStr (List.headD (List.tail (List.tail (List.tail (List.drop (Int.toNat i*4) (encC u))))) PV.nilp))]))) (some (.inr (.ret,[(.pv (.sl l.length (encC l)),none),(.pv (.bool false),none)]))) (some (.inl [(.pv (.sl l.length (encC l)),none),(.pv (.sl u.length (encC u)),none),(.pv (.int .i64 (IntKind.wrap .i64 (i+1))),none)]))) none) none) none) none) none) (some (.inr (.exit 0,[(.pv (.sl l.length (encC l)),none),(.bad,none)]))):=by kernel_rfl
theorem jop (l:List ChT) (k:Int):jxe brC l k=brC (isCs (pCs l)&&0==0&&decide (1<=k)&&holds (k<=100000000)&&holds (mkChE k (asCs (pCs l))<=800000000)&&holds (asCs (pCs l)=mkChs k (asCs (pCs l)))) (some ((.cv (.pv (.int .i64 (mkChE k (asCs (pCs l))))),[]))) none:=by kernel_rfl
theorem jnR (k:Int) (i:Int):jvs brC k i=brC (decide (i<(↑0:Int))) (brC (decide (0<=i)&&decide (i<(↑0:Int))) none none) (some (.inr (.exit 0,[(.own 0,some (.lst 4 63 0 [] true)),(.pv (.int .i64 k),none)]))):=by kernel_rfl
theorem jpT (x:ChT) (y:ChT):jwJ brC x y=brC (ChT.kind x !=ChT.kind y) (some ((.cv (.pv (.bool false)),[]))) (brC (!ByteArray.toList (ChT.name x)==ByteArray.toList (ChT.name y)) (some ((.cv (.pv (.bool false)),[]))) (brC (isL (PV.sl (List.length (ChT.subs x)) (List.map PV.str (ChT.subs x)))&&isL (PV.sl (List.length (ChT.subs y)) (List.map PV.str (ChT.subs y)))) (brC (!holds (asL (PV.sl (List.length (ChT.subs x)) (List.map PV.str (ChT.subs x)))=asL (PV.sl (List.length (ChT.subs y)) (List.map PV.str (ChT.subs y))))) (some ((.cv (.pv (.bool false)),[]))) (brC (!ByteArray.toList (ChT.value x)==ByteArray.toList (ChT.value y)) (some ((.cv (.pv (.bool false)),[]))) (some ((.cv (.pv (.bool true)),[]))))) none)):=by kernel_rfl
theorem jnD (l:List ChT) (u:List ChT):ju5 brC l u=brC ((↑l.length:Int) !=(↑u.length:Int)) (some ((.cv (.pv (.bool false)),[]))) (brC (isCs (pCs l)&&isCs (pCs u)&&0==0&&decide (List.length (asCs (pCs l))=List.length (asCs (pCs u)))&&holds (asCs (pCs l)=asCs (pCs u))) (some ((.cv (.pv (.bool true)),[]))) (brC (isCs (pCs l)&&isCs (pCs u)&&0==0&&decide (List.length (asCs (pCs l))=List.length (asCs (pCs u)))) (some ((.cv (.pv (.bool false)),[]))) none)):=by kernel_rfl
theorem jno (k:Int):juj brC k=brC (Nat.beq 0 0&&nilB []&&0==0) (some ((.cv (.pv (.int .i64 k)),[]))) none:=by kernel_rfl
theorem jmX (k:Int) (i:Int):jvD brC k i=brC (decide (i<(↑0:Int))) (brC (decide (0<=i)&&decide (i<(↑0:Int))) none none) (some (.inr (.exit 0,[(.pv (.sl 0 []),none),(.pv (.int .i64 k),none)]))):=by kernel_rfl
end
end
end Go.Proofs.YtkkjelehfbdekaaGreatDoor
